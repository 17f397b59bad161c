/- The law, plainly. -/
import Derived.Test.YthemaodhckmnkaaFn
set_option linter.unusedVariables false
set_option linter.unusedSimpArgs false
namespace Go.Proofs.Ythemaodhckmnkaa
open Go.RowKit Go.Bv
namespace FnCodes
mutual
/-- How many terms stand in a term. -/
def nT : GTerm → Nat
  | .mk _ _ _ l => nTs l
def nTs : List GTerm → Nat
  | [] => 0
  | x :: l => 1 + nT x + nTs l
end
theorem nTs_eq : ∀ l : List GTerm, nTs l = nsum nT l
  | [] => by rw [nTs]; rfl
  | x :: l => by rw [nTs, nsum, nTs_eq l]
theorem nT_kids (x : GTerm) : nT x = nsum nT x.gKids := by
  cases x with
  | mk a b c l => rw [nT, nTs_eq]; rfl

theorem ok_kids {x : GTerm} (h : x.ok) : okL GTerm.ok x.gKids := by cases h with | mk a b c l h1 h2 h3 h4 h5 => exact ⟨h4, h5⟩
theorem ok_name {x : GTerm} (h : x.ok) : okFs x.gName := by cases h with | mk a b c l h1 h2 h3 h4 h5 => exact h2
theorem ok_kind {x : GTerm} (h : x.ok) : okI .i64 x.gKind := by cases h with | mk a b c l h1 h2 h3 h4 h5 => exact h1
theorem ok_num {x : GTerm} (h : x.ok) : okI .i64 x.gNum := by cases h with | mk a b c l h1 h2 h3 h4 h5 => exact h3

theorem mk_gKind (a : Int) (b : ByteArray) (c : Int) (l : List GTerm) : (GTerm.mk a b c l).gKind = a := rfl
theorem mk_gName (a : Int) (b : ByteArray) (c : Int) (l : List GTerm) : (GTerm.mk a b c l).gName = b := rfl
theorem mk_gNum (a : Int) (b : ByteArray) (c : Int) (l : List GTerm) : (GTerm.mk a b c l).gNum = c := rfl
theorem mk_gKids (a : Int) (b : ByteArray) (c : Int) (l : List GTerm) : (GTerm.mk a b c l).gKids = l := rfl

/-- Is it within these bounds? -/
def inR (x a b : Int) : Bool := decide (a ≤ x ∧ x ≤ b)
theorem inR_t {x a b : Int} (h : a ≤ x ∧ x ≤ b) : inR x a b = true := decide_eq_true h
theorem inR_f {x a b : Int} (h : ¬ (a ≤ x ∧ x ≤ b)) : inR x a b = false := decide_eq_false h

theorem l01In (k : Nat) (x a b : Int) : pspec_l01In k x a b = some (inR x a b) := by
  unfold pspec_l01In inR
  by_cases h : a ≤ x
  · rw [if_pos (by simpa using h)]; simp [h]
  · rw [if_neg (by simpa using h)]; simp [h]

theorem within (k : Nat) (x a b : Int) : pimpl_within k x a b = some (inR x a b) := by
  unfold pimpl_within inR
  by_cases h : a ≤ x
  · rw [if_pos (by simpa using h)]; simp [h]
  · rw [if_neg (by simpa using h)]; simp [h]
theorem bt_le (s : ByteArray) (i : Int) : 0 ≤ bt s i ∧ bt s i ≤ 255 := by
  unfold bt
  have : ((s[i.toNat]?).getD 0).toNat < 256 := ((s[i.toNat]?).getD 0).toNat_lt
  omega
/-- A byte that a name may have. -/
def gb (s : ByteArray) (i : Nat) : Prop := 33 ≤ bt s (i : Int) ∧ bt s (i : Int) ≤ 126 ∧ bt s (i : Int) ≠ 39 ∧ bt s (i : Int) ≠ 34
instance (s : ByteArray) (i : Nat) : Decidable (gb s i) := by unfold gb; infer_instance
/-- A name. -/
def nmOk (s : ByteArray) : Prop := (∀ i, i < s.size → gb s i) ∧ 1 ≤ s.size ∧ s.size ≤ 20
instance (s : ByteArray) : Decidable (nmOk s) := by unfold nmOk; infer_instance

theorem l03Name_L1 (k : Nat) (s : ByteArray) (hs : s.size ≤ maxLen) : ∀ (m n : Nat), n ≤ s.size → s.size - n < m →
    ∃ o, pspec_l03Name_L1 k s m (n : Int) = some o ∧ (match o with | .ret r => r = false ∧ ∃ i, i < s.size ∧ ¬ gb s i | .done _ => ∀ i, n ≤ i → i < s.size → gb s i)
  | 0, n, h1, h2 => by omega
  | m + 1, n, h1, h2 => by
    unfold pspec_l03Name_L1
    by_cases hlt : n < s.size
    · have hg : 0 ≤ (n : Int) ∧ (n : Int).toNat < s.size := ⟨by omega, by simpa using hlt⟩
      have bad : ∀ b : Prop, (gb s n → ¬ b) → b → ∃ o, (some (Out.ret false) : Option (Out Bool Unit)) = some o ∧ (match o with | .ret r => r = false ∧ ∃ i, i < s.size ∧ ¬ gb s i | .done _ => ∀ i, n ≤ i → i < s.size → gb s i) :=
        fun b h hb => ⟨_, rfl, rfl, n, hlt, fun h' => h h' hb⟩
      rw [if_pos (by simpa using hlt), if_pos hg]
      by_cases c1 : bt s (n : Int) < 33
      · rw [if_pos (by simpa using c1)]; exact bad _ (fun h => by have := h.1; omega) c1
      rw [if_neg (by simpa using c1), if_pos hg]
      by_cases c2 : bt s (n : Int) > 126
      · rw [if_pos (by simpa using c2)]; exact bad _ (fun h => by have := h.2.1; omega) c2
      rw [if_neg (by simpa using c2), if_pos hg]
      by_cases c3 : bt s (n : Int) = 39
      · rw [if_pos (by simpa using c3)]; exact bad _ (fun h => h.2.2.1) c3
      rw [if_neg (by simpa using c3), if_pos hg]
      by_cases c4 : bt s (n : Int) = 34
      · rw [if_pos (by simpa using c4)]; exact bad _ (fun h => h.2.2.2) c4
      rw [if_neg (by simpa using c4), wr_succ hlt hs]
      obtain ⟨o, h3, h4⟩ := l03Name_L1 k s hs m (n + 1) (by omega) (by omega)
      refine ⟨o, h3, ?_⟩
      cases o with
      | ret r => exact h4
      | done u =>
        intro i hi1 hi2
        by_cases e : i = n
        · subst e; exact ⟨by omega, by omega, c3, c4⟩
        · exact h4 i (by omega) hi2
    · rw [if_neg (by simpa using hlt)]
      exact ⟨_, rfl, fun i h3 h4 => by omega⟩

theorem nameOk_L1 (k : Nat) (s : ByteArray) (hs : s.size ≤ maxLen) : ∀ (m n : Nat), n ≤ s.size → s.size - n < m →
    ∃ o, pimpl_nameOk_L1 k s m (n : Int) = some o ∧ (match o with | .ret r => r = false ∧ ∃ i, i < s.size ∧ ¬ gb s i | .done _ => ∀ i, n ≤ i → i < s.size → gb s i)
  | 0, n, h1, h2 => by omega
  | m + 1, n, h1, h2 => by
    unfold pimpl_nameOk_L1
    by_cases hlt : n < s.size
    · have hg : 0 ≤ (n : Int) ∧ (n : Int).toNat < s.size := ⟨by omega, by simpa using hlt⟩
      have hb := bt_le s (n : Int)
      have bad : ∀ b : Prop, (gb s n → ¬ b) → b → ∃ o, (some (Out.ret false) : Option (Out Bool Unit)) = some o ∧ (match o with | .ret r => r = false ∧ ∃ i, i < s.size ∧ ¬ gb s i | .done _ => ∀ i, n ≤ i → i < s.size → gb s i) :=
        fun b h hb => ⟨_, rfl, rfl, n, hlt, fun h' => h h' hb⟩
      rw [if_pos (by simpa using hlt), if_pos hg, within, wr_i64 (by omega) (by omega)]
      simp only [Option.bind_some]
      by_cases c1 : 33 ≤ bt s (n : Int) ∧ bt s (n : Int) ≤ 126
      · rw [inR_t c1, if_neg (by simp), if_pos hg]
        by_cases c3 : bt s (n : Int) = 39
        · rw [if_pos (by simpa using c3)]; exact bad _ (fun h => h.2.2.1) c3
        rw [if_neg (by simpa using c3), if_pos hg]
        by_cases c4 : bt s (n : Int) = 34
        · rw [if_pos (by simpa using c4)]; exact bad _ (fun h => h.2.2.2) c4
        rw [if_neg (by simpa using c4), wr_succ hlt hs]
        obtain ⟨o, h3, h4⟩ := nameOk_L1 k s hs m (n + 1) (by omega) (by omega)
        refine ⟨o, h3, ?_⟩
        cases o with
        | ret r => exact h4
        | done u =>
          intro i hi1 hi2
          by_cases e : i = n
          · subst e; exact ⟨by omega, by omega, c3, c4⟩
          · exact h4 i (by omega) hi2
      · rw [inR_f c1, if_pos (by simp)]
        exact bad _ (fun h => by have := h.1; have := h.2.1; omega) c1
    · rw [if_neg (by simpa using hlt)]
      exact ⟨_, rfl, fun i h3 h4 => by omega⟩

theorem nm_of {s : ByteArray} (h : ∀ i, 0 ≤ i → i < s.size → gb s i) : inR (s.size : Int) 1 20 = decide (nmOk s) := by
  unfold inR
  rw [decide_eq_decide]
  unfold nmOk
  constructor
  · intro h1; exact ⟨fun i hi => h i (by omega) hi, by omega, by omega⟩
  · intro h1; obtain ⟨_, h5, h6⟩ := h1; omega

theorem l03Name {k : Nat} {s : ByteArray} (hs : s.size ≤ maxLen) (hk : maxLen < k) : pspec_l03Name k s = some (decide (nmOk s)) := by
  unfold pspec_l03Name
  obtain ⟨o, h1, h2⟩ := l03Name_L1 k s hs k 0 (by omega) (by omega)
  rw [show ((0 : Nat) : Int) = 0 from rfl] at h1
  rw [h1]
  cases o with
  | ret r =>
    obtain ⟨rfl, i, h3, h4⟩ := h2
    have : ¬ nmOk s := fun h => h4 (h.1 i h3)
    simp [this]
  | done u =>
    simp only [Option.bind_some]
    rw [l01In]
    simp only [Option.bind_some]
    rw [nm_of h2]

theorem nameOk {k : Nat} {s : ByteArray} (hs : s.size ≤ maxLen) (hk : maxLen < k) : pimpl_nameOk k s = some (decide (nmOk s)) := by
  unfold pimpl_nameOk
  obtain ⟨o, h1, h2⟩ := nameOk_L1 k s hs k 0 (by omega) (by omega)
  rw [show ((0 : Nat) : Int) = 0 from rfl] at h1
  rw [h1]
  cases o with
  | ret r =>
    obtain ⟨rfl, i, h3, h4⟩ := h2
    have : ¬ nmOk s := fun h => h4 (h.1 i h3)
    simp [this]
  | done u =>
    simp only [Option.bind_some]
    rw [within]
    simp only [Option.bind_some]
    rw [nm_of h2]

/-- The head of a term is as it should be. -/
def one (x : GTerm) : Bool :=
  if x.gKind = 1 then inR x.gNum 0 99999 && (sEq x.gName (bs []) && ((x.gKids.length : Int) == 0))
  else if x.gKind = 2 then decide (nmOk x.gName) && ((x.gNum == 0) && ((x.gKids.length : Int) == 0))
  else if x.gKind = 3 then inR x.gNum (-999999999) 999999999 && (sEq x.gName (bs []) && ((x.gKids.length : Int) == 0))
  else if x.gKind = 4 then decide (nmOk x.gName) && ((x.gNum == 0) && inR (x.gKids.length : Int) 1 5)
  else false
mutual
/-- A term, at a depth, is as it should be. -/
def gT : Int → GTerm → Bool
  | d, .mk a b c l => decide (d ≤ 40) && (one (.mk a b c l) && gTs (d + 1) l)
def gTs : Int → List GTerm → Bool
  | _, [] => true
  | d, x :: l => gT d x && gTs d l
end
theorem gT_eq (d : Int) (x : GTerm) : gT d x = (decide (d ≤ 40) && (one x && gTs (d + 1) x.gKids)) := by
  cases x with
  | mk a b c l => rw [gT]; rfl
theorem gTs_drop {d : Int} {l : List GTerm} {j : Nat} (h : j < l.length) : gTs d (l.drop j) = (gT d l[j] && gTs d (l.drop (j + 1))) := by
  rw [List.drop_eq_getElem_cons h, gTs]
theorem ns_drop {l : List GTerm} {j : Nat} (h : j < l.length) : nsum nT (l.drop j) = 1 + nT l[j] + nsum nT (l.drop (j + 1)) := by
  rw [List.drop_eq_getElem_cons h, nsum]

theorem l03One {k : Nat} {x : GTerm} (hx : x.ok) (hk : maxLen < k) : pspec_l03One k x = some (one x) := by
  have hn := l03Name (k := k) (s := x.gName) (ok_name hx) hk
  unfold pspec_l03One one
  simp only [hn, l01In, Option.bind_some]
  by_cases c1 : x.gKind = 1
  · rw [if_pos (by simpa using c1), if_pos c1]
    cases inR x.gNum 0 99999 <;> cases sEq x.gName (bs []) <;> simp
  rw [if_neg (by simpa using c1), if_neg c1]
  by_cases c2 : x.gKind = 2
  · rw [if_pos (by simpa using c2), if_pos c2]
    cases decide (nmOk x.gName) <;> by_cases h : x.gNum = 0 <;> simp [h]
  rw [if_neg (by simpa using c2), if_neg c2]
  by_cases c3 : x.gKind = 3
  · rw [if_pos (by simpa using c3), if_pos c3]
    cases inR x.gNum (-999999999) 999999999 <;> cases sEq x.gName (bs []) <;> simp
  rw [if_neg (by simpa using c3), if_neg c3]
  by_cases c4 : x.gKind = 4
  · rw [if_pos (by simpa using c4), if_pos c4]
    cases decide (nmOk x.gName) <;> by_cases h : x.gNum = 0 <;> simp [h]
  · rw [if_neg (by simpa using c4), if_neg c4]

/-- What is left of so many terms. -/
def leftOf (v left : Int) (n : Nat) : Prop := -1 ≤ v ∧ (0 ≤ v ↔ (n : Int) ≤ left) ∧ (0 ≤ v → v = left - (n : Int))
theorem l03Count_L1 {k : Nat} {x : GTerm} {f : GTerm → Int → Option Int} (hx : x.gKids.length ≤ maxLen) (hf : ∀ y ∈ x.gKids, ∀ b, 0 ≤ b → b ≤ 401 → ∃ v, f y b = some v ∧ leftOf v b (1 + nT y)) :
    ∀ (m j : Nat) (b : Int), j ≤ x.gKids.length → x.gKids.length - j < m → -1 ≤ b → b ≤ 401 →
      ∃ v, pspec_l03Count_L1 k f x m b (j : Int) = some (.done v) ∧ ((b = -1 ∧ v = -1) ∨ (0 ≤ b ∧ leftOf v b (nsum nT (x.gKids.drop j))))
  | 0, j, b, h1, h2, h3, h4 => by omega
  | m + 1, j, b, h1, h2, h3, h4 => by
    unfold pspec_l03Count_L1
    by_cases hlt : j < x.gKids.length
    · rw [if_pos (by simpa using hlt)]
      by_cases hb : 0 ≤ b
      · rw [if_pos (by simpa using hb), at_lt hlt]
        simp only [Option.bind_some]
        obtain ⟨v, e, g1, g2, g3⟩ := hf _ (List.getElem_mem hlt) b hb h4
        rw [e]
        simp only [Option.bind_some]
        rw [wr_succ hlt hx]
        obtain ⟨u, e2, h5⟩ := l03Count_L1 (k := k) hx hf m (j + 1) v (by omega) (by omega) g1 (by by_cases h : 0 ≤ v <;> omega)
        refine ⟨u, e2, .inr ⟨hb, ?_⟩⟩
        rw [ns_drop hlt]
        rcases h5 with ⟨rfl, rfl⟩ | ⟨h6, h7, h8, h9⟩
        · refine ⟨by omega, ⟨fun h => by omega, fun h => by have := g2.2 (by omega); omega⟩, fun h => by omega⟩
        · have := g3 h6
          have := g2.1 h6
          refine ⟨h7, ⟨fun h => by have := h8.1 h; omega, fun h => h8.2 (by omega)⟩, fun h => by have := h9 h; omega⟩
      · rw [if_neg (by simpa using hb)]
        exact ⟨b, rfl, .inl ⟨by omega, by omega⟩⟩
    · rw [if_neg (by simpa using hlt)]
      rw [List.drop_of_length_le (by omega)]
      by_cases hb : 0 ≤ b
      · exact ⟨b, rfl, .inr ⟨hb, h3, by simp only [nsum]; omega, fun _ => by simp only [nsum]; omega⟩⟩
      · exact ⟨b, rfl, .inl ⟨by omega, by omega⟩⟩

theorem l03Count : ∀ (k : Nat) (x : GTerm), maxLen + 2 * nT x + 2 < k → x.ok → ∀ b : Int, 0 ≤ b → b ≤ 401 → ∃ v, pspec_l03Count k x b = some v ∧ leftOf v b (1 + nT x)
  | 0, x, h => by omega
  | k + 1, x, hw => by
    intro hx b h0 h1
    have hn := nT_kids x
    unfold pspec_l03Count
    rw [wr_i64 (by omega) (by omega)]
    obtain ⟨v, e, h⟩ := l03Count_L1 (k := k) (x := x) (ok_kids hx).1 (fun y hy b h0 h1 => by have := nsum_mem (n := nT) hy; exact l03Count k y (by omega) ((ok_kids hx).2 y hy) b h0 h1) k 0 (b - 1) (by omega) (by have := (ok_kids hx).1; omega) (by omega) (by omega)
    rw [show ((0 : Nat) : Int) = 0 from rfl] at e
    rw [e]
    refine ⟨v, rfl, ?_⟩
    rw [List.drop_zero, ← hn] at h
    rcases h with ⟨h2, rfl⟩ | ⟨h2, h3, h4, h5⟩
    · exact ⟨by omega, ⟨fun h => by omega, fun h => by omega⟩, fun h => by omega⟩
    · exact ⟨h3, ⟨fun h => by have := h4.1 h; omega, fun h => h4.2 (by omega)⟩, fun h => by have := h5 h; omega⟩

theorem l03Right_L1 {k : Nat} {x : GTerm} {d : Int} {f : GTerm → Int → Option Bool} (hx : x.gKids.length ≤ maxLen) (hd : wr.i64 (d + 1) = d + 1) (hf : ∀ y ∈ x.gKids, f y (d + 1) = some (gT (d + 1) y)) :
    ∀ (m j : Nat), j ≤ x.gKids.length → x.gKids.length - j < m → pspec_l03Right_L1 k f x d m (j : Int) = some (if gTs (d + 1) (x.gKids.drop j) then .done () else .ret false)
  | 0, j, h1, h2 => by omega
  | m + 1, j, h1, h2 => by
    unfold pspec_l03Right_L1
    by_cases hlt : j < x.gKids.length
    · rw [if_pos (by simpa using hlt), at_lt hlt, hd]
      simp only [Option.bind_some, hf _ (List.getElem_mem hlt)]
      rw [gTs_drop hlt]
      cases hg : gT (d + 1) x.gKids[j] with
      | false => simp
      | true =>
        rw [if_neg (by simp), wr_succ hlt hx, l03Right_L1 hx hd hf m (j + 1) (by omega) (by omega)]
        simp
    · rw [if_neg (by simpa using hlt), List.drop_of_length_le (by omega), gTs]; rfl

theorem l03Right : ∀ (k : Nat) (x : GTerm), maxLen + 2 * nT x + 2 < k → x.ok → ∀ d : Int, 0 ≤ d → d ≤ 41 → pspec_l03Right k x d = some (gT d x)
  | 0, x, h => by omega
  | k + 1, x, hw => by
    intro hx d h0 h1
    have hn := nT_kids x
    unfold pspec_l03Right
    rw [gT_eq]
    by_cases hd : d > 40
    · rw [if_pos (by simpa using hd)]; simp; omega
    · rw [if_neg (by simpa using hd), l03One hx (by omega)]
      simp only [Option.bind_some]
      cases h1 : one x with
      | false => simp
      | true =>
        rw [if_neg (by simp)]
        have e := l03Right_L1 (k := k) (x := x) (d := d) (ok_kids hx).1 (wr_i64 (by omega) (by omega)) (fun y hy => by have := nsum_mem (n := nT) hy; exact l03Right k y (by omega) ((ok_kids hx).2 y hy) (d + 1) (by omega) (by omega)) k 0 (by omega) (by have := (ok_kids hx).1; omega)
        rw [show ((0 : Nat) : Int) = 0 from rfl, List.drop_zero] at e
        rw [e]
        cases gTs (d + 1) x.gKids <;> simp <;> omega

/-- A term is right. -/
def tOk (x : GTerm) : Bool := decide (1 + nT x ≤ 400) && gT 1 x
theorem spec_TermOk {k : Nat} {x : GTerm} (hw : maxLen + 2 * nT x + 2 < k) (hx : x.ok) : pspec_TermOk k x = some (tOk x) := by
  unfold pspec_TermOk tOk
  obtain ⟨v, e, h1, h2, h3⟩ := l03Count k x hw hx 400 (by omega) (by omega)
  rw [e]
  simp only [Option.bind_some]
  by_cases hv : 0 ≤ v
  · rw [if_pos (by simpa using hv), l03Right k x hw hx 1 (by omega) (by omega)]
    have := h2.1 hv
    simp; omega
  · rw [if_neg (by simpa using hv)]
    have : ¬ (1 + nT x ≤ 400) := fun h => hv (h2.2 (by omega))
    simp [this]

/-- What the program counts. -/
def cnt (d : Int) (x : GTerm) : Int := if gT d x && decide (1 + nT x ≤ 400) then ((1 + nT x : Nat) : Int) else 401
theorem sized_L2 {k : Nat} {x : GTerm} {d : Int} {f : GTerm → Int → Option Int} (hx : x.gKids.length ≤ maxLen) (hd : wr.i64 (d + 1) = d + 1) (hf : ∀ y ∈ x.gKids, f y (d + 1) = some (cnt (d + 1) y)) :
    ∀ (m j : Nat) (b : Int), j ≤ x.gKids.length → x.gKids.length - j < m → 1 ≤ b → b ≤ 400 →
      pimpl_sized_L2 k f x d m b (j : Int) = some (if gTs (d + 1) (x.gKids.drop j) && decide (b + (nsum nT (x.gKids.drop j) : Int) ≤ 400) then .done (b + (nsum nT (x.gKids.drop j) : Int)) else .ret 401)
  | 0, j, b, h1, h2, h3, h4 => by omega
  | m + 1, j, b, h1, h2, h3, h4 => by
    unfold pimpl_sized_L2
    by_cases hlt : j < x.gKids.length
    · rw [if_pos (by simpa using hlt), at_lt hlt, hd]
      simp only [Option.bind_some, hf _ (List.getElem_mem hlt)]
      rw [gTs_drop hlt, ns_drop hlt, wr_succ hlt hx]
      by_cases hg : gT (d + 1) x.gKids[j] = true ∧ 1 + nT x.gKids[j] ≤ 400
      · have hc : cnt (d + 1) x.gKids[j] = ((1 + nT x.gKids[j] : Nat) : Int) := by unfold cnt; rw [if_pos (by simpa using hg)]
        rw [hc, wr_i64 (by omega) (by omega)]
        by_cases hs : b + ((1 + nT x.gKids[j] : Nat) : Int) > 400
        · rw [if_pos (by simpa using hs), if_neg]
          simp only [Bool.and_eq_true, decide_eq_true_eq, not_and]
          intro _; omega
        · rw [if_neg (by simpa using hs), sized_L2 hx hd hf m (j + 1) _ (by omega) (by omega) (by omega) (by omega), hg.1, Bool.true_and]
          have e1 : b + ((1 + nT x.gKids[j] : Nat) : Int) + (nsum nT (x.gKids.drop (j + 1)) : Int) = b + ((1 + nT x.gKids[j] + nsum nT (x.gKids.drop (j + 1)) : Nat) : Int) := by omega
          rw [e1]
      · have hc : cnt (d + 1) x.gKids[j] = 401 := by unfold cnt; rw [if_neg (by simpa using hg)]
        rw [hc, wr_i64 (by omega) (by omega), if_pos (by simp; omega), if_neg]
        simp only [Bool.and_eq_true, decide_eq_true_eq, not_and]
        intro h5
        have h6 : ¬ (1 + nT x.gKids[j] ≤ 400) := fun h => hg ⟨h5.1, h⟩
        omega
    · rw [if_neg (by simpa using hlt), List.drop_of_length_le (by omega), gTs, if_pos (by simp only [nsum]; simp; omega)]
      simp [nsum]

theorem sized : ∀ (k : Nat) (x : GTerm), maxLen + 2 * nT x + 2 < k → x.ok → ∀ d : Int, 0 ≤ d → d ≤ 41 → pimpl_sized k x d = some (cnt d x)
  | 0, x, h => by omega
  | k + 1, x, hw => by
    intro hx d h0 h1
    have hn := nT_kids x
    have hnm := nameOk (k := k) (s := x.gName) (ok_name hx) (by omega)
    have hJ : d ≤ 40 → one x = true → pimpl_sized_J1 k (pimpl_sized k) x d = some (cnt d x) := by
      intro hd h1
      unfold pimpl_sized_J1 cnt
      have e := sized_L2 (k := k) (x := x) (d := d) (ok_kids hx).1 (wr_i64 (by omega) (by omega)) (fun y hy => by have := nsum_mem (n := nT) hy; exact sized k y (by omega) ((ok_kids hx).2 y hy) (d + 1) (by omega) (by omega)) k 0 1 (by omega) (by have := (ok_kids hx).1; omega) (by omega) (by omega)
      rw [show ((0 : Nat) : Int) = 0 from rfl, List.drop_zero, ← hn] at e
      rw [e, gT_eq, h1, Bool.true_and, decide_eq_true hd, Bool.true_and]
      have e2 : decide (1 + (nT x : Int) ≤ 400) = decide (1 + nT x ≤ 400) := by rw [decide_eq_decide]; omega
      rw [e2]
      split
      · simp
      · simp
    have hbad : one x = false → (401 : Int) = cnt d x := by
      intro h1; unfold cnt; rw [gT_eq, h1]; simp
    unfold pimpl_sized
    by_cases hd : d > 40
    · rw [if_pos (by simpa using hd)]
      unfold cnt; rw [gT_eq, decide_eq_false (show ¬ d ≤ 40 by omega)]; simp
    have hJ' := hJ (by omega)
    rw [if_neg (by simpa using hd)]
    simp only [hnm, within, Option.bind_some]
    generalize pimpl_sized_J1 k (pimpl_sized k) x d = J at hJ' ⊢
    generalize cnt d x = C at hJ' hbad ⊢
    have hlen : ((x.gKids.length : Int) > 0) ↔ ¬ ((x.gKids.length : Int) = 0) := by omega
    unfold one at hJ' hbad
    by_cases c1 : x.gKind = 1
    · rw [if_pos (by simpa using c1)]
      rw [if_pos c1] at hJ' hbad
      cases h2 : inR x.gNum 0 99999 <;> cases h3 : sEq x.gName (bs []) <;> by_cases h4 : (x.gKids.length : Int) = 0 <;> simp_all
    rw [if_neg (by simpa using c1)]
    rw [if_neg c1] at hJ' hbad
    by_cases c2 : x.gKind = 2
    · rw [if_pos (by simpa using c2)]
      rw [if_pos c2] at hJ' hbad
      cases h2 : decide (nmOk x.gName) <;> by_cases h3 : x.gNum = 0 <;> by_cases h4 : (x.gKids.length : Int) = 0 <;> simp_all
    rw [if_neg (by simpa using c2)]
    rw [if_neg c2] at hJ' hbad
    by_cases c3 : x.gKind = 3
    · rw [if_pos (by simpa using c3)]
      rw [if_pos c3] at hJ' hbad
      cases h2 : inR x.gNum (-999999999) 999999999 <;> cases h3 : sEq x.gName (bs []) <;> by_cases h4 : (x.gKids.length : Int) = 0 <;> simp_all
    rw [if_neg (by simpa using c3)]
    rw [if_neg c3] at hJ' hbad
    by_cases c4 : x.gKind = 4
    · rw [if_pos (by simpa using c4)]
      rw [if_pos c4] at hJ' hbad
      cases h2 : decide (nmOk x.gName) <;> by_cases h3 : x.gNum = 0 <;> cases h4 : inR (x.gKids.length : Int) 1 5 <;> simp_all
    · rw [if_neg (by simpa using c4)]
      rw [if_neg c4] at hbad
      rw [hbad rfl]

theorem impl_TermOk {k : Nat} {x : GTerm} (hw : maxLen + 2 * nT x + 2 < k) (hx : x.ok) : pimpl_TermOk k x = some (tOk x) := by
  unfold pimpl_TermOk tOk
  rw [sized k x hw hx 1 (by omega) (by omega)]
  simp only [Option.bind_some]
  unfold cnt
  cases gT 1 x <;> by_cases h : 1 + nT x ≤ 400 <;> simp [h] <;> omega
theorem l03Has_L1 (k : Nat) {l : List Int} (x : Int) (hl : l.length ≤ maxLen) : ∀ (m j : Nat), j ≤ l.length → l.length - j < m → pspec_l03Has_L1 k l x m (j : Int) = some (if x ∈ l.drop j then .ret true else .done ())
  | 0, j, h1, h2 => by omega
  | m + 1, j, h1, h2 => by
    unfold pspec_l03Has_L1
    by_cases hlt : j < l.length
    · rw [if_pos (by simpa using hlt), at_lt hlt, List.drop_eq_getElem_cons hlt]
      simp only [Option.bind_some]
      by_cases e : l[j] = x
      · rw [if_pos (by simpa using e), if_pos (by simp [e])]
      · rw [if_neg (by simpa using e), wr_succ hlt hl, l03Has_L1 k x hl m (j + 1) (by omega) (by omega)]
        have : (x ∈ l[j] :: l.drop (j + 1)) ↔ x ∈ l.drop (j + 1) := by
          rw [List.mem_cons]; exact ⟨fun h => h.resolve_left (fun h => e h.symm), .inr⟩
        simp only [this]
    · rw [if_neg (by simpa using hlt), List.drop_of_length_le (by omega)]; simp
theorem l03Has {k : Nat} {l : List Int} (x : Int) (hl : l.length ≤ maxLen) (hk : maxLen < k) : pspec_l03Has k l x = some (decide (x ∈ l)) := by
  unfold pspec_l03Has
  have e := l03Has_L1 k x hl k 0 (by omega) (by omega)
  rw [show ((0 : Nat) : Int) = 0 from rfl, List.drop_zero] at e
  rw [e]
  by_cases h : x ∈ l <;> simp [h]
theorem index_L1 (k : Nat) {l : List Int} (x : Int) (hl : l.length ≤ maxLen) : ∀ (m j : Nat), j ≤ l.length → l.length - j < m →
    ∃ o, pslices_Index___int_int__L1 k l x m (j : Int) = some o ∧ (match o with | .ret i => 0 ≤ i ∧ x ∈ l.drop j | .done _ => ¬ x ∈ l.drop j)
  | 0, j, h1, h2 => by omega
  | m + 1, j, h1, h2 => by
    unfold pslices_Index___int_int__L1
    by_cases hlt : j < l.length
    · rw [if_pos (by simpa using hlt), at_lt hlt, List.drop_eq_getElem_cons hlt]
      simp only [Option.bind_some]
      by_cases e : x = l[j]
      · rw [if_pos (by simpa using e)]
        exact ⟨_, rfl, by omega, by rw [List.mem_cons]; exact .inl e⟩
      · rw [if_neg (by simpa using e), wr_succ hlt hl]
        obtain ⟨o, h3, h4⟩ := index_L1 k x hl m (j + 1) (by omega) (by omega)
        refine ⟨o, h3, ?_⟩
        cases o with
        | ret i => exact ⟨h4.1, List.mem_cons_of_mem _ h4.2⟩
        | done u =>
          intro hm
          rcases List.mem_cons.1 hm with hm | hm
          · exact e hm
          · exact h4 hm
    · rw [if_neg (by simpa using hlt), List.drop_of_length_le (by omega)]
      exact ⟨_, rfl, by simp⟩
theorem contains {k : Nat} {l : List Int} (x : Int) (hl : l.length ≤ maxLen) (hk : maxLen < k) : pslices_Contains___int_int_ k l x = some (decide (x ∈ l)) := by
  unfold pslices_Contains___int_int_ pslices_Index___int_int_
  obtain ⟨o, h1, h2⟩ := index_L1 k x hl k 0 (by omega) (by omega)
  rw [show ((0 : Nat) : Int) = 0 from rfl] at h1
  rw [h1]
  rw [List.drop_zero] at h2
  cases o with
  | ret i => simp [h2.1, h2.2]
  | done u =>
    simp only [Option.bind_some]
    have : ¬ x ∈ l := h2
    simp [this]

mutual
/-- The words of a term, and the variables seen by then. -/
def W : GTerm → List Int → List GIns × List Int
  | .mk a b c l, s =>
    if a = 2 then ([GIns.mk 1 b 0 0], s)
    else if a = 3 then ([GIns.mk 2 (bs []) c 0], s)
    else if a = 1 then (if c ∈ s then ([GIns.mk 4 (bs []) c 0], s) else ([GIns.mk 3 (bs []) c 0], s ++ [c]))
    else (GIns.mk 5 b 0 (l.length : Int) :: (Ws l s).1, (Ws l s).2)
def Ws : List GTerm → List Int → List GIns × List Int
  | [], s => ([], s)
  | x :: l, s => ((W x s).1 ++ (Ws l (W x s).2).1, (Ws l (W x s).2).2)
end
theorem W_eq (x : GTerm) (s : List Int) : W x s = if x.gKind = 2 then ([GIns.mk 1 x.gName 0 0], s)
    else if x.gKind = 3 then ([GIns.mk 2 (bs []) x.gNum 0], s)
    else if x.gKind = 1 then (if x.gNum ∈ s then ([GIns.mk 4 (bs []) x.gNum 0], s) else ([GIns.mk 3 (bs []) x.gNum 0], s ++ [x.gNum]))
    else (GIns.mk 5 x.gName 0 (x.gKids.length : Int) :: (Ws x.gKids s).1, (Ws x.gKids s).2) := by
  cases x with
  | mk a b c l => rw [W]; rfl
mutual
theorem W_len : ∀ (x : GTerm) (s : List Int), (W x s).1.length ≤ 1 + nT x ∧ (W x s).2.length ≤ s.length + 1 + nT x
  | .mk a b c l, s => by
    have h := Ws_len l s
    rw [W, nT]
    split
    · simp; omega
    · split
      · simp; omega
      · split
        · split <;> simp <;> omega
        · simp only [List.length_cons]; omega
theorem Ws_len : ∀ (l : List GTerm) (s : List Int), (Ws l s).1.length ≤ nTs l ∧ (Ws l s).2.length ≤ s.length + nTs l
  | [], s => by simp [Ws, nTs]
  | x :: l, s => by
    have h1 := W_len x s
    have h2 := Ws_len l (W x s).2
    rw [Ws, nTs]
    simp only [List.length_append]
    omega
end
theorem Ws_drop {l : List GTerm} {j : Nat} (h : j < l.length) (s : List Int) : Ws (l.drop j) s = ((W l[j] s).1 ++ (Ws (l.drop (j + 1)) (W l[j] s).2).1, (Ws (l.drop (j + 1)) (W l[j] s).2).2) := by
  rw [List.drop_eq_getElem_cons h, Ws]

theorem l12Words_L1 {k : Nat} {x : GTerm} {f : GTerm → List GIns → List Int → Option (List GIns × List Int)} (hx : x.gKids.length ≤ 1048576)
    (hf : ∀ y ∈ x.gKids, ∀ o s, o.length + 1 + nT y ≤ 8388608 → s.length + 1 + nT y ≤ 8388608 → f y o s = some (o ++ (W y s).1, (W y s).2)) :
    ∀ (m j : Nat) (o : List GIns) (s : List Int), j ≤ x.gKids.length → x.gKids.length - j < m → o.length + nsum nT (x.gKids.drop j) ≤ 8388608 → s.length + nsum nT (x.gKids.drop j) ≤ 8388608 →
      pspec_l12Words_L1 k f x m o s (j : Int) = some (.done (o ++ (Ws (x.gKids.drop j) s).1, (Ws (x.gKids.drop j) s).2))
  | 0, j, o, s, h1, h2, h3, h4 => by omega
  | m + 1, j, o, s, h1, h2, h3, h4 => by
    have hm : x.gKids.length ≤ maxLen := by rw [maxLen_eq]; omega
    unfold pspec_l12Words_L1
    by_cases hlt : j < x.gKids.length
    · rw [ns_drop hlt] at h3 h4
      have hl := W_len x.gKids[j] s
      rw [if_pos (by simpa using hlt), at_lt hlt]
      simp only [Option.bind_some]
      rw [hf _ (List.getElem_mem hlt) o s (by omega) (by omega)]
      simp only [Option.bind_some]
      rw [wr_succ hlt hm, l12Words_L1 hx hf m (j + 1) _ _ (by omega) (by omega) (by simp only [List.length_append]; omega) (by omega), Ws_drop hlt]
      simp only [List.append_assoc]
    · rw [if_neg (by simpa using hlt), List.drop_of_length_le (by omega), Ws, List.append_nil]

theorem l12Words : ∀ (k : Nat) (x : GTerm), maxLen + 2 * nT x + 2 < k → nT x ≤ 1048576 → ∀ o s, o.length + 1 + nT x ≤ 8388608 → s.length + 1 + nT x ≤ 8388608 → pspec_l12Words k x o s = some (o ++ (W x s).1, (W x s).2)
  | 0, x, h => by omega
  | k + 1, x, hw => by
    intro hn o s h1 h2
    have hk := nT_kids x
    have hlen := nsum_len nT x.gKids
    have hm : maxLen = 9223372036854775807 := maxLen_eq
    unfold pspec_l12Words
    rw [W_eq]
    by_cases c2 : x.gKind = 2
    · rw [if_pos (by simpa using c2), if_pos c2, if_pos (by simp; omega)]
    rw [if_neg (by simpa using c2), if_neg c2]
    by_cases c3 : x.gKind = 3
    · rw [if_pos (by simpa using c3), if_pos c3, if_pos (by simp; omega)]
    rw [if_neg (by simpa using c3), if_neg c3]
    by_cases c1 : x.gKind = 1
    · rw [if_pos (by simpa using c1), if_pos c1, l03Has _ (by omega) (by omega)]
      simp only [Option.bind_some]
      by_cases hs : x.gNum ∈ s
      · rw [if_pos (by simpa using hs), if_pos (by simp; omega), if_pos hs]
      · rw [if_neg (by simpa using hs), if_pos (by simp; omega), if_pos (by simp; omega), if_pos (by simp; omega), if_neg hs]
    rw [if_neg (by simpa using c1), if_neg c1, if_pos (by simp; omega)]
    have e := l12Words_L1 (k := k) (f := pspec_l12Words k) (x := x) (by omega) (fun y hy o s g1 g2 => by have := nsum_mem (n := nT) hy; exact l12Words k y (by omega) (by omega) o s g1 g2) k 0 (o ++ [GIns.mk 5 x.gName 0 (x.gKids.length : Int)]) s (by omega) (by omega) (by simp only [List.drop_zero, List.length_append, List.length_singleton]; omega) (by rw [List.drop_zero]; omega)
    rw [show ((0 : Nat) : Int) = 0 from rfl, List.drop_zero] at e
    rw [e]
    simp

theorem wordsOf_L1 {k : Nat} {x : GTerm} {f : GTerm → List Int → Option (List GIns × List Int)} (hx : x.gKids.length ≤ 1048576)
    (hf : ∀ y ∈ x.gKids, ∀ s, s.length + 1 + nT y ≤ 8388608 → f y s = some (W y s)) :
    ∀ (m j : Nat) (o : List GIns) (s : List Int), j ≤ x.gKids.length → x.gKids.length - j < m → o.length + nsum nT (x.gKids.drop j) ≤ 8388608 → s.length + nsum nT (x.gKids.drop j) ≤ 8388608 →
      pimpl_wordsOf_L1 k f x m s o (j : Int) = some (.done ((Ws (x.gKids.drop j) s).2, o ++ (Ws (x.gKids.drop j) s).1))
  | 0, j, o, s, h1, h2, h3, h4 => by omega
  | m + 1, j, o, s, h1, h2, h3, h4 => by
    have hm : x.gKids.length ≤ maxLen := by rw [maxLen_eq]; omega
    unfold pimpl_wordsOf_L1
    by_cases hlt : j < x.gKids.length
    · rw [ns_drop hlt] at h3 h4
      have hl := W_len x.gKids[j] s
      rw [if_pos (by simpa using hlt), at_lt hlt]
      simp only [Option.bind_some]
      rw [hf _ (List.getElem_mem hlt) s (by omega)]
      simp only [Option.bind_some]
      rw [if_pos (by omega), wr_succ hlt hm, wordsOf_L1 hx hf m (j + 1) _ _ (by omega) (by omega) (by simp only [List.length_append]; omega) (by omega), Ws_drop hlt]
      simp only [List.append_assoc]
    · rw [if_neg (by simpa using hlt), List.drop_of_length_le (by omega), Ws, List.append_nil]

theorem wordsOf : ∀ (k : Nat) (x : GTerm), maxLen + 2 * nT x + 2 < k → nT x ≤ 1048576 → ∀ s, s.length + 1 + nT x ≤ 8388608 → pimpl_wordsOf k x s = some (W x s)
  | 0, x, h => by omega
  | k + 1, x, hw => by
    intro hn s h2
    have hk := nT_kids x
    have hlen := nsum_len nT x.gKids
    have hm : maxLen = 9223372036854775807 := maxLen_eq
    unfold pimpl_wordsOf
    rw [W_eq]
    by_cases c2 : x.gKind = 2
    · rw [if_pos (by simpa using c2), if_pos c2]
    rw [if_neg (by simpa using c2), if_neg c2]
    by_cases c3 : x.gKind = 3
    · rw [if_pos (by simpa using c3), if_pos c3]
    rw [if_neg (by simpa using c3), if_neg c3]
    by_cases c1 : x.gKind = 1
    · rw [if_pos (by simpa using c1), if_pos c1, contains _ (by omega) (by omega)]
      simp only [Option.bind_some]
      by_cases hs : x.gNum ∈ s
      · rw [if_pos (by simpa using hs), if_pos hs]
      · rw [if_neg (by simpa using hs), if_pos (by simp; omega), if_neg hs]
    rw [if_neg (by simpa using c1), if_neg c1]
    have e := wordsOf_L1 (k := k) (f := pimpl_wordsOf k) (x := x) (by omega) (fun y hy s g2 => by have := nsum_mem (n := nT) hy; exact wordsOf k y (by omega) (by omega) s g2) k 0 [GIns.mk 5 x.gName 0 (x.gKids.length : Int)] s (by omega) (by omega) (by simp only [List.drop_zero, List.length_singleton]; omega) (by rw [List.drop_zero]; omega)
    rw [show ((0 : Nat) : Int) = 0 from rfl, List.drop_zero] at e
    rw [e]
    simp

/-- Each number once. -/
def uniq : List Int → List Int → List Int
  | [], o => o
  | x :: l, o => uniq l (if x ∈ o then o else o ++ [x])
theorem uniq_len : ∀ (l o : List Int), (uniq l o).length ≤ o.length + l.length
  | [], o => by simp [uniq]
  | x :: l, o => by
    have h := uniq_len l (if x ∈ o then o else o ++ [x])
    rw [uniq]
    split at h
    · rename_i c; rw [if_pos c]; simp only [List.length_cons]; omega
    · rename_i c; rw [if_neg c]; simp only [List.length_append, List.length_cons, List.length_nil] at h ⊢; omega
theorem uniq_drop {l : List Int} {j : Nat} (h : j < l.length) (o : List Int) : uniq (l.drop j) o = uniq (l.drop (j + 1)) (if l[j] ∈ o then o else o ++ [l[j]]) := by
  rw [List.drop_eq_getElem_cons h, uniq]
theorem specOwn {k : Nat} {l : List Int} (hl : l.length ≤ 8388608) (hk : maxLen < k) : ∀ (m j : Nat) (o : List Int), j ≤ l.length → l.length - j < m → o.length ≤ j → pspec_WordsOf_L1 k l m o (j : Int) = some (.done (uniq (l.drop j) o))
  | 0, j, o, h1, h2, h3 => by omega
  | m + 1, j, o, h1, h2, h3 => by
    have hm : l.length ≤ maxLen := by rw [maxLen_eq]; omega
    unfold pspec_WordsOf_L1
    by_cases hlt : j < l.length
    · rw [if_pos (by simpa using hlt), at_lt hlt]
      simp only [Option.bind_some]
      rw [l03Has _ (by omega) hk]
      simp only [Option.bind_some]
      rw [uniq_drop hlt, wr_succ hlt hm]
      by_cases hs : l[j] ∈ o
      · rw [if_neg (by simp [hs]), if_pos hs, specOwn hl hk m (j + 1) _ (by omega) (by omega) (by omega)]
      · rw [if_pos (by simp [hs]), if_neg hs, if_pos (by simp; omega), specOwn hl hk m (j + 1) _ (by omega) (by omega) (by simp; omega)]
    · rw [if_neg (by simpa using hlt), List.drop_of_length_le (by omega), uniq]
theorem implOwn {k : Nat} {l : List Int} (hl : l.length ≤ 8388608) (hk : maxLen < k) : ∀ (m j : Nat) (o : List Int), j ≤ l.length → l.length - j < m → o.length ≤ j → pimpl_WordsOf_L1 k l m o (j : Int) = some (.done (uniq (l.drop j) o))
  | 0, j, o, h1, h2, h3 => by omega
  | m + 1, j, o, h1, h2, h3 => by
    have hm : l.length ≤ maxLen := by rw [maxLen_eq]; omega
    unfold pimpl_WordsOf_L1
    by_cases hlt : j < l.length
    · rw [if_pos (by simpa using hlt), at_lt hlt]
      simp only [Option.bind_some]
      rw [contains _ (by omega) hk]
      simp only [Option.bind_some]
      rw [uniq_drop hlt, wr_succ hlt hm]
      by_cases hs : l[j] ∈ o
      · rw [if_neg (by simp [hs]), if_pos hs, implOwn hl hk m (j + 1) _ (by omega) (by omega) (by omega)]
      · rw [if_pos (by simp [hs]), if_neg hs, if_pos (by simp; omega), implOwn hl hk m (j + 1) _ (by omega) (by omega) (by simp; omega)]
    · rw [if_neg (by simpa using hlt), List.drop_of_length_le (by omega), uniq]

/-- What both answer. -/
def WO (t : GTerm) (l : List Int) : List GIns × List Int := if tOk t then W t (uniq l []) else ([], uniq l [])
theorem WO_len (t : GTerm) (l : List Int) (ht : nT t ≤ 1048576) : (WO t l).1.length ≤ 400 ∧ (WO t l).2.length ≤ l.length + 400 := by
  have h1 := W_len t (uniq l [])
  have h2 := uniq_len l []
  unfold WO
  cases h : tOk t with
  | false => rw [if_neg (by simp)]; simp at h2 ⊢; omega
  | true =>
    have : 1 + nT t ≤ 400 := by unfold tOk at h; simp at h; omega
    rw [if_pos rfl]; simp at h2; omega
theorem spec_WordsOf {k : Nat} {t : GTerm} {l : List Int} (hw : maxLen + 2 * nT t + 2 < k) (hn : nT t ≤ 1048576) (ht : t.ok) (hl : l.length ≤ 4194304) : pspec_WordsOf k t l = some (WO t l) := by
  have hu := uniq_len l []
  have e := specOwn (k := k) (l := l) (by omega) (by omega) k 0 [] (by omega) (by have := maxLen_eq; omega) (by simp)
  rw [show ((0 : Nat) : Int) = 0 from rfl, List.drop_zero] at e
  unfold pspec_WordsOf WO
  simp only [e, Option.bind_some, spec_TermOk hw ht]
  cases h : tOk t with
  | false => simp
  | true =>
    simp only [List.length_nil, Nat.zero_add] at hu
    rw [if_neg (by simp), l12Words k t hw hn [] (uniq l []) (by simp; omega) (by omega)]
    simp
theorem impl_WordsOf {k : Nat} {t : GTerm} {l : List Int} (hw : maxLen + 2 * nT t + 2 < k) (hn : nT t ≤ 1048576) (ht : t.ok) (hl : l.length ≤ 4194304) : pimpl_WordsOf k t l = some (WO t l) := by
  have hu := uniq_len l []
  have e := implOwn (k := k) (l := l) (by omega) (by omega) k 0 [] (by omega) (by have := maxLen_eq; omega) (by simp)
  rw [show ((0 : Nat) : Int) = 0 from rfl, List.drop_zero] at e
  unfold pimpl_WordsOf WO
  simp only [e, Option.bind_some, impl_TermOk hw ht]
  cases h : tOk t with
  | false => simp
  | true =>
    simp only [List.length_nil, Nat.zero_add] at hu
    rw [if_neg (by simp), wordsOf k t hw hn (uniq l []) (by omega)]
    simp
mutual
/-- The numbers of the variables of a term, in order. -/
def vs : GTerm → List Int
  | .mk a _ c l => (if a = 1 then [c] else []) ++ vss l
def vss : List GTerm → List Int
  | [] => []
  | x :: l => vs x ++ vss l
end
theorem vs_eq (x : GTerm) : vs x = (if x.gKind = 1 then [x.gNum] else []) ++ vss x.gKids := by cases x; rw [vs]; rfl
mutual
theorem vs_len : ∀ x : GTerm, (vs x).length ≤ 1 + nT x
  | .mk a b c l => by
    have h := vss_len l
    rw [vs, nT]
    split <;> simp <;> omega
theorem vss_len : ∀ l : List GTerm, (vss l).length ≤ nTs l
  | [] => by simp [vss, nTs]
  | x :: l => by
    have h1 := vs_len x
    have h2 := vss_len l
    rw [vss, nTs]
    simp only [List.length_append]; omega
end
theorem vss_drop {l : List GTerm} {j : Nat} (h : j < l.length) : vss (l.drop j) = vs l[j] ++ vss (l.drop (j + 1)) := by
  rw [List.drop_eq_getElem_cons h, vss]
theorem uniq_app : ∀ (a b o : List Int), uniq (a ++ b) o = uniq b (uniq a o)
  | [], b, o => by simp [uniq]
  | x :: a, b, o => by simp only [List.cons_append, uniq]; exact uniq_app a b _
theorem mem_uniq : ∀ (l o : List Int) (x : Int), x ∈ uniq l o ↔ x ∈ l ∨ x ∈ o
  | [], o, x => by simp [uniq]
  | y :: l, o, x => by
    rw [uniq, mem_uniq l]
    split
    · rename_i c
      constructor
      · rintro (h | h)
        · exact .inl (List.mem_cons_of_mem _ h)
        · exact .inr h
      · rintro (h | h)
        · rcases List.mem_cons.1 h with rfl | h
          · exact .inr c
          · exact .inl h
        · exact .inr h
    · simp only [List.mem_append, List.mem_cons, List.not_mem_nil, or_false]
      constructor
      · rintro (h | h | h)
        · exact .inl (.inr h)
        · exact .inr h
        · exact .inl (.inl h)
      · rintro ((h | h) | h)
        · exact .inr (.inr h)
        · exact .inl h
        · exact .inr (.inl h)

theorem l03Vars_L2 {k : Nat} {x : GTerm} {f : GTerm → List Int → Option (List Int)} (hx : x.gKids.length ≤ 1048576)
    (hf : ∀ y ∈ x.gKids, ∀ s, s.length + 1 + nT y ≤ 8388608 → f y s = some (uniq (vs y) s)) :
    ∀ (m j : Nat) (s : List Int), j ≤ x.gKids.length → x.gKids.length - j < m → s.length + nsum nT (x.gKids.drop j) ≤ 8388608 →
      pspec_l03Vars_L2 k f x m s (j : Int) = some (.done (uniq (vss (x.gKids.drop j)) s))
  | 0, j, s, h1, h2, h3 => by omega
  | m + 1, j, s, h1, h2, h3 => by
    have hm : x.gKids.length ≤ maxLen := by rw [maxLen_eq]; omega
    unfold pspec_l03Vars_L2
    by_cases hlt : j < x.gKids.length
    · rw [ns_drop hlt] at h3
      have hl := uniq_len (vs x.gKids[j]) s
      have hl2 := vs_len x.gKids[j]
      rw [if_pos (by simpa using hlt), at_lt hlt]
      simp only [Option.bind_some]
      rw [hf _ (List.getElem_mem hlt) s (by omega)]
      simp only [Option.bind_some]
      rw [wr_succ hlt hm, l03Vars_L2 hx hf m (j + 1) _ (by omega) (by omega) (by omega), vss_drop hlt, uniq_app]
    · rw [if_neg (by simpa using hlt), List.drop_of_length_le (by omega), vss, uniq]
theorem l03Vars : ∀ (k : Nat) (x : GTerm), maxLen + 2 * nT x + 2 < k → nT x ≤ 1048576 → ∀ s, s.length + 1 + nT x ≤ 8388608 → pspec_l03Vars k x s = some (uniq (vs x) s)
  | 0, x, h => by omega
  | k + 1, x, hw => by
    intro hn s h2
    have hk := nT_kids x
    have hlen := nsum_len nT x.gKids
    have hm : maxLen = 9223372036854775807 := maxLen_eq
    have e : ∀ s : List Int, s.length + nT x ≤ 8388608 → pspec_l03Vars_J1 k (pspec_l03Vars k) x s = some (uniq (vss x.gKids) s) := by
      intro s hs
      have e := l03Vars_L2 (k := k) (f := pspec_l03Vars k) (x := x) (by omega) (fun y hy s g2 => by have := nsum_mem (n := nT) hy; exact l03Vars k y (by omega) (by omega) s g2) k 0 s (by omega) (by omega) (by rw [List.drop_zero]; omega)
      rw [show ((0 : Nat) : Int) = 0 from rfl, List.drop_zero] at e
      unfold pspec_l03Vars_J1
      rw [e]; rfl
    unfold pspec_l03Vars
    rw [vs_eq]
    by_cases c1 : x.gKind = 1
    · rw [if_pos (by simpa using c1), if_pos c1, l03Has _ (by omega) (by omega)]
      simp only [Option.bind_some]
      unfold pspec_l03Vars_J3
      rw [List.singleton_append, uniq]
      by_cases hs : x.gNum ∈ s
      · rw [if_neg (by simp [hs]), if_pos hs, e s (by omega)]
      · rw [if_pos (by simp [hs]), if_neg hs, if_pos (by simp; omega), e _ (by simp; omega)]
    · rw [if_neg (by simpa using c1), if_neg c1]
      unfold pspec_l03Vars_J3
      rw [if_neg (by simp), List.nil_append, e s (by omega)]

/-- One more than the greatest of a list, at least b. -/
def IsMx (l : List Int) (b r : Int) : Prop := b ≤ r ∧ (∀ v ∈ l, v + 1 ≤ r) ∧ (r = b ∨ ∃ v ∈ l, r = v + 1)
theorem IsMx.uniq {l : List Int} {b r r' : Int} (h : IsMx l b r) (h' : IsMx l b r') : r = r' := by
  obtain ⟨h1, h2, h3⟩ := h
  obtain ⟨g1, g2, g3⟩ := h'
  rcases h3 with rfl | ⟨v, hv, rfl⟩
  · rcases g3 with rfl | ⟨u, hu, rfl⟩
    · rfl
    · have := h2 u hu; omega
  · have := g2 v hv
    rcases g3 with rfl | ⟨u, hu, rfl⟩
    · omega
    · have := h2 u hu; omega
theorem IsMx.same {l m : List Int} {b r : Int} (h : IsMx l b r) (e : ∀ x, x ∈ l ↔ x ∈ m) : IsMx m b r := by
  obtain ⟨h1, h2, h3⟩ := h
  refine ⟨h1, fun v hv => h2 v ((e v).2 hv), h3.imp id ?_⟩
  rintro ⟨v, hv, hr⟩
  exact ⟨v, (e v).1 hv, hr⟩
theorem IsMx.app {l m : List Int} {b c r : Int} (h : IsMx l b c) (g : IsMx m c r) : IsMx (l ++ m) b r := by
  obtain ⟨h1, h2, h3⟩ := h
  obtain ⟨g1, g2, g3⟩ := g
  refine ⟨by omega, fun v hv => ?_, ?_⟩
  · rcases List.mem_append.1 hv with hv | hv
    · have := h2 v hv; omega
    · exact g2 v hv
  · rcases g3 with rfl | ⟨u, hu, rfl⟩
    · exact h3.imp id fun ⟨v, hv, hr⟩ => ⟨v, List.mem_append_left _ hv, hr⟩
    · exact .inr ⟨u, List.mem_append_right _ hu, rfl⟩

def small (l : List Int) : Prop := ∀ v ∈ l, 0 ≤ v ∧ v ≤ 99999
theorem l11Many_L1 {k : Nat} {l : List Int} (hl : l.length ≤ maxLen) (hs : small l) : ∀ (m j : Nat) (b : Int), j ≤ l.length → l.length - j < m → 0 ≤ b → ∃ r, pspec_l11Many_L1 k l m b (j : Int) = some (.done r) ∧ IsMx (l.drop j) b r
  | 0, j, b, h1, h2, h3 => by omega
  | m + 1, j, b, h1, h2, h3 => by
    unfold pspec_l11Many_L1
    by_cases hlt : j < l.length
    · rw [if_pos (by simpa using hlt), at_lt hlt]
      simp only [Option.bind_some]
      have hv := hs _ (List.getElem_mem hlt)
      rw [wr_succ hlt hl, List.drop_eq_getElem_cons hlt]
      have one : ∀ c : Int, IsMx [l[j]] b c → ∀ r, IsMx (l.drop (j + 1)) c r → IsMx (l[j] :: l.drop (j + 1)) b r := fun c h r g => IsMx.app h g
      by_cases hb : l[j] ≥ b
      · rw [if_pos (by simpa using hb), wr_i64 (by omega) (by omega)]
        obtain ⟨r, e, h⟩ := l11Many_L1 (k := k) hl hs m (j + 1) (l[j] + 1) (by omega) (by omega) (by omega)
        exact ⟨r, e, one (l[j] + 1) ⟨by omega, fun v hv => by simp at hv; omega, .inr ⟨l[j], by simp, rfl⟩⟩ r h⟩
      · rw [if_neg (by simpa using hb)]
        obtain ⟨r, e, h⟩ := l11Many_L1 (k := k) hl hs m (j + 1) b (by omega) (by omega) h3
        exact ⟨r, e, one b ⟨by omega, fun v hv => by simp at hv; omega, .inl rfl⟩ r h⟩
    · rw [if_neg (by simpa using hlt), List.drop_of_length_le (by omega)]
      exact ⟨b, rfl, Int.le_refl _, (fun v hv => by cases hv), .inl rfl⟩

theorem varsUpTo_L1 {k : Nat} {l : List GTerm} {f : List GTerm → Option Int} (hl : l.length ≤ maxLen) (hs : small (vss l))
    (hf : ∀ x ∈ l, ∃ r, f x.gKids = some r ∧ IsMx (vss x.gKids) 0 r) :
    ∀ (m j : Nat) (b : Int), j ≤ l.length → l.length - j < m → 0 ≤ b → ∃ r, pimpl_varsUpTo_L1 k f l m b (j : Int) = some (.done r) ∧ IsMx (vss (l.drop j)) b r
  | 0, j, b, h1, h2, h3 => by omega
  | m + 1, j, b, h1, h2, h3 => by
    unfold pimpl_varsUpTo_L1
    by_cases hlt : j < l.length
    · rw [if_pos (by simpa using hlt), at_lt hlt]
      simp only [Option.bind_some]
      obtain ⟨q, e, g1, g2, g3⟩ := hf _ (List.getElem_mem hlt)
      rw [e, wr_succ hlt hl, vss_drop hlt, vs_eq]
      simp only [Option.bind_some]
      have kids : ∀ c : Int, 0 ≤ c → IsMx (vss l[j].gKids) c (if q > c then q else c) := by
        intro c hc
        by_cases hq : q > c
        · rw [if_pos hq]
          refine ⟨by omega, g2, ?_⟩
          rcases g3 with rfl | g3
          · omega
          · exact .inr g3
        · rw [if_neg hq]
          exact ⟨by omega, (fun v hv => by have := g2 v hv; omega), .inl rfl⟩
      by_cases c1 : l[j].gKind = 1
      · have hv : 0 ≤ l[j].gNum ∧ l[j].gNum ≤ 99999 := by
          refine hs _ ?_
          have : vss (l.drop j) = vs l[j] ++ vss (l.drop (j + 1)) := vss_drop hlt
          have hsub : ∀ (l : List GTerm) (y : GTerm), y ∈ l → ∀ v ∈ vs y, v ∈ vss l := by
            intro l
            induction l with
            | nil => intro y hy; cases hy
            | cons z l ih =>
              intro y hy v hv
              rw [vss, List.mem_append]
              rcases List.mem_cons.1 hy with rfl | hy
              · exact .inl hv
              · exact .inr (ih y hy v hv)
          refine hsub l l[j] (List.getElem_mem hlt) _ ?_
          rw [vs_eq, if_pos c1]; simp
        rw [if_pos (by simpa using c1), if_pos c1, wr_i64 (by omega) (by omega)]
        have hc : IsMx [l[j].gNum] b (if l[j].gNum + 1 > b then l[j].gNum + 1 else b) := by
          by_cases hq : l[j].gNum + 1 > b
          · rw [if_pos hq]; exact ⟨by omega, (fun v hv => by simp at hv; omega), .inr ⟨_, by simp, rfl⟩⟩
          · rw [if_neg hq]; exact ⟨by omega, (fun v hv => by simp at hv; omega), .inl rfl⟩
        generalize (if l[j].gNum + 1 > b then l[j].gNum + 1 else b) = c at hc ⊢
        have hc0 := hc.1
        have hk2 := kids c (by omega)
        generalize (if q > c then q else c) = c2 at hk2 ⊢
        have hc2 := hk2.1
        clear kids g1 g2 g3
        obtain ⟨r, e2, h⟩ := varsUpTo_L1 (k := k) hl hs hf m (j + 1) c2 (by omega) (by omega) (by omega)
        exact ⟨r, e2, (hc.app hk2).app h⟩
      · rw [if_neg (by simpa using c1), if_neg c1, List.nil_append]
        have hk2 := kids b h3
        generalize (if q > b then q else b) = c2 at hk2 ⊢
        have hc2 := hk2.1
        clear kids g1 g2 g3
        obtain ⟨r, e2, h⟩ := varsUpTo_L1 (k := k) hl hs hf m (j + 1) c2 (by omega) (by omega) (by omega)
        exact ⟨r, e2, hk2.app h⟩
    · rw [if_neg (by simpa using hlt), List.drop_of_length_le (by omega)]
      exact ⟨b, rfl, Int.le_refl _, (fun v hv => by cases hv), .inl rfl⟩

theorem varsUpTo : ∀ (k : Nat) (l : List GTerm), maxLen + 2 * nsum nT l + 2 < k → nsum nT l ≤ 1048576 → small (vss l) → ∃ r, pimpl_varsUpTo k l = some r ∧ IsMx (vss l) 0 r
  | 0, l, h => by omega
  | k + 1, l, hw => by
    intro hn hs
    have hlen := nsum_len nT l
    have hm : maxLen = 9223372036854775807 := maxLen_eq
    unfold pimpl_varsUpTo
    have hsub : ∀ (l : List GTerm) (y : GTerm), y ∈ l → ∀ v ∈ vss y.gKids, v ∈ vss l := by
      intro l
      induction l with
      | nil => intro y hy; cases hy
      | cons z l ih =>
        intro y hy v hv
        rw [vss, List.mem_append]
        rcases List.mem_cons.1 hy with rfl | hy
        · rw [vs_eq]; exact .inl (List.mem_append_right _ hv)
        · exact .inr (ih y hy v hv)
    obtain ⟨r, e, h⟩ := varsUpTo_L1 (k := k) (f := pimpl_varsUpTo k) (l := l) (by omega) hs (fun x hx => by have := nsum_mem (n := nT) hx; have hk := nT_kids x; exact varsUpTo k x.gKids (by omega) (by omega) (fun v hv => hs v (hsub l x hx v hv))) k 0 0 (by omega) (by omega) (by omega)
    rw [show ((0 : Nat) : Int) = 0 from rfl] at e
    rw [List.drop_zero] at h
    rw [e]
    exact ⟨r, rfl, h⟩

mutual
theorem gT_small : ∀ (x : GTerm) (d : Int), gT d x = true → small (vs x)
  | .mk a b c l, d, h => by
    rw [gT] at h
    simp only [Bool.and_eq_true] at h
    have hk := gTs_small l (d + 1) h.2.2
    have h1 := h.2.1
    rw [vs]
    intro v hv
    rcases List.mem_append.1 hv with hv | hv
    · by_cases c1 : a = 1
      · rw [if_pos c1] at hv
        simp only [List.mem_singleton] at hv
        subst hv
        unfold one at h1
        rw [if_pos (show (GTerm.mk a b v l).gKind = 1 from c1)] at h1
        simp only [Bool.and_eq_true] at h1
        have := h1.1
        unfold inR at this
        exact of_decide_eq_true this
      · rw [if_neg c1] at hv; cases hv
    · exact hk v hv
theorem gTs_small : ∀ (l : List GTerm) (d : Int), gTs d l = true → small (vss l)
  | [], d, h => fun v hv => by rw [vss] at hv; cases hv
  | x :: l, d, h => by
    rw [gTs] at h
    simp only [Bool.and_eq_true] at h
    have h1 := gT_small x d h.1
    have h2 := gTs_small l d h.2
    intro v hv
    rw [vss] at hv
    rcases List.mem_append.1 hv with hv | hv
    · exact h1 v hv
    · exact h2 v hv
end
theorem l34Terms_L1 {k : Nat} {f : GTerm → Option GTerm} {g : List GTerm → Option (List GTerm)} {l : List GTerm} (hl : l.length ≤ 1048576) (hf : ∀ x ∈ l, f x = some x) :
    ∀ (m j : Nat), j ≤ l.length → l.length - j < m → pspec_l34Terms_L1 k f g l m (l.take j) (j : Int) = some (.done l)
  | 0, j, h1, h2 => by omega
  | m + 1, j, h1, h2 => by
    unfold pspec_l34Terms_L1
    have hm : l.length ≤ maxLen := by rw [maxLen_eq]; omega
    by_cases hlt : j < l.length
    · rw [if_pos (by simpa using hlt), at_lt hlt]
      simp only [Option.bind_some, hf _ (List.getElem_mem hlt)]
      rw [if_pos (by simp; omega), wr_succ hlt hm, ← List.take_succ_eq_append_getElem hlt]
      exact l34Terms_L1 hl hf m (j + 1) (by omega) (by omega)
    · rw [if_neg (by simpa using hlt), List.take_of_length_le (by omega)]
theorem l34Both : ∀ k : Nat, (∀ l, maxLen + 2 * nsum nT l + 1 < k → nsum nT l ≤ 16777216 → l.length ≤ 1048576 → (∀ x ∈ l, nT x ≤ 1048576) → pspec_l34Terms k l = some l) ∧ (∀ x, maxLen + 2 * nT x + 2 < k → nT x ≤ 1048576 → pspec_l34Term k x = some x)
  | 0 => ⟨fun l h => by omega, fun x h => by omega⟩
  | k + 1 => by
    obtain ⟨ih1, ih2⟩ := l34Both k
    refine ⟨fun l hw hl h3 h4 => ?_, fun x hw hx => ?_⟩
    · have := nsum_len nT l
      unfold pspec_l34Terms
      have e := l34Terms_L1 (k := k) (f := pspec_l34Term k) (g := pspec_l34Terms k) (l := l) (by omega) (fun x hx => by have := nsum_mem (n := nT) hx; exact ih2 x (by omega) (h4 x hx)) k 0 (by omega) (by omega)
      rw [show ((0 : Nat) : Int) = 0 from rfl, List.take_zero] at e
      rw [e]; rfl
    · have hk := nT_kids x
      have := nsum_len nT x.gKids
      unfold pspec_l34Term
      rw [ih1 x.gKids (by omega) (by omega) (by omega) (fun y hy => by have := nsum_mem (n := nT) hy; omega)]
      cases x; rfl
theorem l34Term {k : Nat} {x : GTerm} (hw : maxLen + 2 * nT x + 2 < k) (hx : nT x ≤ 1048576) : pspec_l34Term k x = some x := (l34Both k).2 x hw hx
theorem l34Terms {k : Nat} {l : List GTerm} (hw : maxLen + 2 * nsum nT l + 2 < k) (hx : nsum nT l ≤ 1048576) : pspec_l34Terms k l = some l := by
  have := nsum_len nT l
  exact (l34Both k).1 l (by omega) (by omega) (by omega) (fun x hx => by have := nsum_mem (n := nT) hx; omega)
/-! what is drawn -/
/-- Not by computation: the kernel must not look into the conditions. -/
theorem obs {α β : Type} {a : α} {f : α → Option β} : (some a).bind f = f a := by
  cases h : f a with
  | none => exact h
  | some b => exact h
theorem kk {n k : Nat} (m : Nat) (h : n < k - maxLen) (hm : m ≤ n := by decide) : maxLen + m < k := by
  rw [Nat.add_comm]
  exact Nat.add_lt_of_lt_sub (Nat.lt_of_le_of_lt hm h)
theorem kz {n k : Nat} (h : n < k - maxLen) : maxLen < k := by
  have := kk 0 h (Nat.zero_le _)
  exact this
theorem kle {n k : Nat} (m : Nat) (h : n < k - maxLen) (hm : m ≤ n := by decide) : m < k - maxLen := Nat.lt_of_le_of_lt hm h
theorem band255 (x : Int) : 0 ≤ band .i64 x 255 ∧ band .i64 x 255 ≤ 255 := by
  have h : ∀ b : BitVec 64, (b &&& BitVec.ofInt 64 255).toNat ≤ 255 := by
    intro b
    rw [BitVec.toNat_and]
    exact Nat.and_le_right
  have e : band .i64 x 255 = IntKind.wrap .i64 ((BitVec.ofInt 64 x &&& BitVec.ofInt 64 255).toNat) := rfl
  have h1 := h (BitVec.ofInt 64 x)
  generalize (BitVec.ofInt 64 x &&& BitVec.ofInt 64 255).toNat = n at e h1
  have e2 : wr.i64 (n : Int) = n := wr_i64 (by omega) (by omega)
  rw [e, show IntKind.wrap .i64 (n : Int) = wr.i64 (n : Int) from rfl, e2]
  omega

theorem at_int {α : Type} {l : List α} {v : Int} (h1 : 0 ≤ v) (h2 : v < (l.length : Int)) : ∃ (h : v.toNat < l.length), at' l v = some l[v.toNat] := by
  obtain ⟨n, rfl⟩ := Int.eq_ofNat_of_zero_le h1
  exact ⟨by omega, at_lt (by omega)⟩
/-- A cursor is right. -/
def CurOk (c : GL01Cur) : Prop := c.gB.length ≤ 1048576 ∧ 0 ≤ c.gI ∧ c.gI ≤ (c.gB.length : Int)

theorem l01New_L1 (k : Nat) (a : List Int) (hl : a.length ≤ 1048576) : ∀ (m j : Nat) (h : Int), j ≤ a.length → a.length - j < m → ∃ r, pspec_l01New_L1 k a m h (j : Int) = some (.done r)
  | 0, j, h, h1, h2 => by omega
  | m + 1, j, h, h1, h2 => by
    rw [pspec_l01New_L1]
    have hM := maxLen_eq
    by_cases c : j < a.length
    · rw [if_pos (by simpa using c)]
      split
      · rw [at_lt c, wr_succ c (by omega)]
        exact l01New_L1 k a hl m (j + 1) _ (by omega) (by omega)
      · exact ⟨_, rfl⟩
    · rw [if_neg (by simpa using c)]
      exact ⟨_, rfl⟩
theorem l01New {k : Nat} {a : List Int} (hl : a.length ≤ 1048576) (hk : maxLen < k) : ∃ c, pspec_l01New k a = some c ∧ CurOk c := by
  unfold pspec_l01New
  have hM := maxLen_eq
  obtain ⟨r, e⟩ := l01New_L1 k a hl k 0 (wr.i64 (95101 + (a.length : Int))) (by omega) (by omega)
  rw [show ((0 : Nat) : Int) = 0 from rfl] at e
  rw [e]
  exact ⟨_, rfl, hl, by simp, by simp⟩
theorem l01Byte {c : GL01Cur} (h : CurOk c) (k : Nat) : ∃ c' v, pspec_l01Byte k c = some (c', v) ∧ CurOk c' ∧ 0 ≤ v ∧ v ≤ 255 := by
  unfold pspec_l01Byte
  obtain ⟨h1, h2, h3⟩ := h
  by_cases g : c.gI < (c.gB.length : Int)
  · rw [if_pos (by simpa using g)]
    obtain ⟨hn, e⟩ := at_int h2 g
    rw [e]
    refine ⟨_, _, rfl, ⟨h1, ?_, ?_⟩, (band255 _).1, (band255 _).2⟩
    · simp only; rw [wr_i64 (by omega) (by omega)]; omega
    · simp only; rw [wr_i64 (by omega) (by omega)]; omega
  · rw [if_neg (by simpa using g)]
    exact ⟨_, _, rfl, ⟨h1, h2, h3⟩, (band255 _).1, (band255 _).2⟩
theorem l01Below {c : GL01Cur} (h : CurOk c) (k : Nat) (n : Int) : ∃ c' v, pspec_l01Below k c n = some (c', v) ∧ CurOk c' ∧ 0 ≤ v ∧ (0 < n → v < n) ∧ (n ≤ 0 → v = 0) := by
  unfold pspec_l01Below
  by_cases g : n ≤ 0
  · rw [if_pos (by simpa using g)]
    exact ⟨_, _, rfl, h, by omega, by omega, fun _ => rfl⟩
  rw [if_neg (by simpa using g)]
  split
  · obtain ⟨c', v, e, h1, h2, h3⟩ := l01Byte h k
    rw [e]
    simp only [Option.bind_some]
    rw [if_pos (by omega)]
    exact ⟨_, _, rfl, h1, Int.tmod_nonneg _ h2, fun _ => Int.tmod_lt_of_pos _ (by omega), by omega⟩
  · obtain ⟨c1, v1, e1, h1, l1, u1⟩ := l01Byte h k
    obtain ⟨c2, v2, e2, h2, l2, u2⟩ := l01Byte h1 k
    obtain ⟨c3, v3, e3, h3, l3, u3⟩ := l01Byte h2 k
    obtain ⟨c4, v4, e4, h4, l4, u4⟩ := l01Byte h3 k
    simp only [e1, e2, e3, e4, Option.bind_some]
    rw [if_pos (by omega)]
    have w1 : wr.i64 (v1 * 16777216) = v1 * 16777216 := wr_i64 (by omega) (by omega)
    have w2 : wr.i64 (v2 * 65536) = v2 * 65536 := wr_i64 (by omega) (by omega)
    have w3 : wr.i64 (v3 * 256) = v3 * 256 := wr_i64 (by omega) (by omega)
    rw [w1, w2, w3, wr_i64 (x := v1 * 16777216 + v2 * 65536) (by omega) (by omega), wr_i64 (x := v1 * 16777216 + v2 * 65536 + v3 * 256) (by omega) (by omega), wr_i64 (by omega) (by omega)]
    exact ⟨_, _, rfl, h4, Int.tmod_nonneg _ (by omega), fun _ => Int.tmod_lt_of_pos _ (by omega), by omega⟩
theorem at_mem {α : Type} {l : List α} {v : Int} (h1 : 0 ≤ v) (h2 : v < (l.length : Int)) : ∃ x, at' l v = some x ∧ x ∈ l := by
  obtain ⟨hn, e⟩ := at_int h1 h2
  exact ⟨_, e, List.getElem_mem hn⟩
theorem l01Pick {c : GL01Cur} (h : CurOk c) (k : Nat) {l : List ByteArray} (hl : 0 < l.length) : ∃ c' s, pspec_l01Pick k c l = some (c', s) ∧ CurOk c' ∧ s ∈ l := by
  unfold pspec_l01Pick
  obtain ⟨c', v, e, h1, h2, h3, h4⟩ := l01Below h k (l.length : Int)
  obtain ⟨s, e2, h5⟩ := at_mem h2 (h3 (by omega))
  simp only [e, e2, Option.bind_some]
  exact ⟨_, _, rfl, h1, h5⟩
theorem l01PickInt {c : GL01Cur} (h : CurOk c) (k : Nat) {l : List Int} (hl : 0 < l.length) : ∃ c' s, pspec_l01PickInt k c l = some (c', s) ∧ CurOk c' ∧ s ∈ l := by
  unfold pspec_l01PickInt
  obtain ⟨c', v, e, h1, h2, h3, h4⟩ := l01Below h k (l.length : Int)
  obtain ⟨s, e2, h5⟩ := at_mem h2 (h3 (by omega))
  simp only [e, e2, Option.bind_some]
  exact ⟨_, _, rfl, h1, h5⟩
theorem l01Once {c : GL01Cur} (h : CurOk c) (k : Nat) (n : Int) : ∃ c' b, pspec_l01Once k c n = some (c', b) ∧ CurOk c' := by
  unfold pspec_l01Once
  obtain ⟨c', v, e, h1, h2, h3, h4⟩ := l01Below h k n
  simp only [e, Option.bind_some]
  exact ⟨_, _, rfl, h1⟩
theorem ok_mk {a : Int} {b : ByteArray} {c : Int} {l : List GTerm} (h1 : -9223372036854775808 ≤ a ∧ a ≤ 9223372036854775807) (h2 : b.size ≤ 9223372036854775807) (h3 : -9223372036854775808 ≤ c ∧ c ≤ 9223372036854775807) (h4 : l.length ≤ 9223372036854775807) (h5 : ∀ x ∈ l, x.ok) : (GTerm.mk a b c l).ok := by
  have e1 : IntKind.i64.min = -9223372036854775808 := rfl
  have e2 : IntKind.i64.max = 9223372036854775807 := rfl
  have hM := maxLen_eq
  exact .mk _ _ _ _ (by unfold okI; omega) (by unfold okFs; omega) (by unfold okI; omega) (by omega) h5
/-- The head of a right term. -/
theorem one_ok {x : GTerm} (h : one x = true) : (1 ≤ x.gKind ∧ x.gKind ≤ 4) ∧ x.gName.size ≤ 20 ∧ (-999999999 ≤ x.gNum ∧ x.gNum ≤ 999999999) ∧ x.gKids.length ≤ 5 := by
  have hin : ∀ {x a b : Int}, inR x a b = true → a ≤ x ∧ x ≤ b := fun h => of_decide_eq_true h
  have hz : ∀ {s : ByteArray}, sEq s (bs []) = true → s.size ≤ 20 := fun h => by rw [sEq_iff.1 h]; decide
  unfold one at h
  split at h
  · simp only [Bool.and_eq_true, beq_iff_eq] at h
    have := hin h.1; have := hz h.2.1; omega
  split at h
  · simp only [Bool.and_eq_true, beq_iff_eq, decide_eq_true_eq] at h
    have := h.1.2.2; omega
  split at h
  · simp only [Bool.and_eq_true, beq_iff_eq] at h
    have := hin h.1; have := hz h.2.1; omega
  split at h
  · simp only [Bool.and_eq_true, beq_iff_eq, decide_eq_true_eq] at h
    have := h.1.2.2; have := hin h.2.2; omega
  · cases h
mutual
theorem gT_ok : ∀ (x : GTerm) (d : Int), gT d x = true → x.ok
  | .mk a b c l, d, h => by
    rw [gT_eq] at h
    simp only [Bool.and_eq_true] at h
    have := one_ok h.2.1
    simp only [mk_gKind, mk_gName, mk_gNum, mk_gKids] at this
    exact ok_mk (by omega) (by omega) (by omega) (by omega) (gTs_ok l (d + 1) h.2.2)
theorem gTs_ok : ∀ (l : List GTerm) (d : Int), gTs d l = true → ∀ x ∈ l, x.ok
  | [], d, h => fun x hx => by cases hx
  | x :: l, d, h => fun y hy => by
    rw [gTs, Bool.and_eq_true] at h
    cases hy with
    | head => exact gT_ok x d h.1
    | tail _ hy => exact gTs_ok l d h.2 y hy
end
theorem tOk_ok {x : GTerm} (h : tOk x = true) : x.ok ∧ nT x ≤ 399 := by
  unfold tOk at h
  simp only [Bool.and_eq_true, decide_eq_true_eq] at h
  exact ⟨gT_ok x 1 h.2, by omega⟩
theorem gTs_all {d : Int} : ∀ {l : List GTerm}, (∀ y ∈ l, gT d y = true) → gTs d l = true
  | [], _ => by rw [gTs]
  | x :: l, h => by rw [gTs, h x (List.mem_cons_self ..), gTs_all (fun y hy => h y (List.mem_cons_of_mem _ hy))]; rfl

theorem one_var {n : Int} (h : 0 ≤ n ∧ n ≤ 99999) : one (.mk 1 (bs []) n []) = true := by
  unfold one
  rw [mk_gKind, mk_gName, mk_gNum, mk_gKids, if_pos rfl, inR_t h, sEq_refl]; rfl
theorem one_atom {s : ByteArray} (h : nmOk s) : one (.mk 2 s 0 []) = true := by
  unfold one
  rw [mk_gKind, mk_gName, mk_gNum, mk_gKids, if_neg (by decide), if_pos rfl, decide_eq_true h]; rfl
theorem one_int {n : Int} (h : -999999999 ≤ n ∧ n ≤ 999999999) : one (.mk 3 (bs []) n []) = true := by
  unfold one
  rw [mk_gKind, mk_gName, mk_gNum, mk_gKids, if_neg (by decide), if_neg (by decide), if_pos rfl, inR_t h, sEq_refl]; rfl
theorem one_struct {s : ByteArray} {l : List GTerm} (h : nmOk s) (h1 : 1 ≤ l.length) (h2 : l.length ≤ 5) : one (.mk 4 s 0 l) = true := by
  unfold one
  rw [mk_gKind, mk_gName, mk_gNum, mk_gKids, if_neg (by decide), if_neg (by decide), if_neg (by decide), if_pos rfl, decide_eq_true h, inR_t (by omega)]; rfl
/-- A term that was made, so high at most. -/
def MadeT (d : Nat) (x : GTerm) : Prop := (∀ e : Int, e + (d : Int) ≤ 40 → gT e x = true) ∧ nT x + 1 ≤ 4 ^ d
theorem MadeT.leaf {x : GTerm} (d : Nat) (h1 : one x = true) (h2 : x.gKids = []) : MadeT d x := by
  refine ⟨fun e he => ?_, ?_⟩
  · rw [gT_eq, h1, h2, gTs, decide_eq_true (by omega)]; rfl
  · rw [nT_kids, h2]; exact Nat.one_le_pow _ _ (by omega)
theorem MadeT.node {d : Nat} {b : ByteArray} {l : List GTerm} (h1 : nmOk b) (h2 : 1 ≤ l.length) (h3 : l.length ≤ 3) (h4 : ∀ y ∈ l, MadeT d y) : MadeT (d + 1) (.mk 4 b 0 l) := by
  refine ⟨fun e he => ?_, ?_⟩
  · rw [gT_eq, mk_gKids, gTs_all (fun y hy => (h4 y hy).1 (e + 1) (by omega)), decide_eq_true (by omega), one_struct h1 h2 (by omega)]
    rfl
  · rw [nT_kids, mk_gKids]
    have : ∀ m : List GTerm, (∀ y ∈ m, MadeT d y) → nsum nT m ≤ m.length * 4 ^ d := by
      intro m
      induction m with
      | nil => intro _; exact Nat.zero_le _
      | cons x m ih =>
        intro hm
        have a := (hm x (List.mem_cons_self ..)).2
        have b := ih (fun y hy => hm y (List.mem_cons_of_mem _ hy))
        rw [nsum, List.length_cons, Nat.succ_mul]
        omega
    have a := this l h4
    have b : l.length * 4 ^ d ≤ 3 * 4 ^ d := Nat.mul_le_mul_right _ h3
    have c : 1 ≤ 4 ^ d := Nat.one_le_pow _ _ (by omega)
    rw [Nat.pow_succ]
    omega
theorem MadeT.up {d : Nat} {x : GTerm} (h : MadeT d x) (e : Nat) (he : d ≤ e) : MadeT e x :=
  ⟨fun f hf => h.1 f (by omega), Nat.le_trans h.2 (Nat.pow_le_pow_right (by omega) he)⟩
theorem MadeT.right {x : GTerm} (h : MadeT 3 x) : tOk x = true := by
  have := h.2
  unfold tOk
  rw [h.1 1 (by omega), decide_eq_true (by omega)]
  rfl
theorem names_ok {s : ByteArray} (h : s ∈ [(bs [97]), (bs [98]), (bs [91, 93]), (bs [43]), (bs [66, 105, 103]), bs [120], (bs [58, 45]), (bs [61, 46, 46]), (bs [61]), (bs [44]), (bs [102]), (bs [59]), (bs [103]), (bs [45]), bs [46], bs [115]]) : nmOk s := by
  have : ∀ s ∈ [(bs [97]), (bs [98]), (bs [91, 93]), (bs [43]), (bs [66, 105, 103]), bs [120], (bs [58, 45]), (bs [61, 46, 46]), (bs [61]), (bs [44]), (bs [102]), (bs [59]), (bs [103]), (bs [45]), bs [46], bs [115]], nmOk s := by decide +kernel
  exact this s h
theorem atom_made {s : ByteArray} (h : nmOk s) (d : Nat) : MadeT d (.mk 2 s 0 []) :=
  MadeT.leaf d (one_atom h) rfl

theorem l03Made_L2 {k d : Nat} {F : GL01Cur → Int → Option (GL01Cur × GTerm)} (hd : wr.i64 (((d + 1 : Nat) : Int) - 1) = (d : Int))
    (hF : ∀ c, CurOk c → ∃ c' t, F c (d : Int) = some (c', t) ∧ CurOk c' ∧ MadeT d t) {s : ByteArray} :
    ∀ (m j : Nat) (l : List GTerm) (c : GL01Cur), 4 - j < m → j ≤ 3 → CurOk c → l.length = j → (∀ y ∈ l, MadeT d y) →
      ∃ t c', pspec_l03Made_L2 k F ((d + 1 : Nat) : Int) m (j : Int) (.mk 4 s 0 l) c = some (.done (t, c')) ∧ CurOk c' ∧ ∃ l', t = .mk 4 s 0 l' ∧ l'.length ≤ 3 ∧ (1 ≤ j ∨ 1 ≤ l'.length) ∧ j ≤ l'.length ∧ ∀ y ∈ l', MadeT d y
  | 0, j, l, c, h1, h2, h3, h4, h5 => by omega
  | m + 1, j, l, c, h1, h2, h3, h4, h5 => by
    rw [pspec_l03Made_L2]
    obtain ⟨c', v, e, g1, g2, g3, _⟩ := l01Below h3 k 3
    have g3 := g3 (by decide)
    simp only [e, Option.bind_some]
    rw [wr_i64 (x := 1 + v) (by omega) (by omega)]
    by_cases q : (j : Int) < 1 + v
    · rw [if_pos (by simpa using q), mk_gKids, if_pos (by rw [decide_eq_true_eq]; omega), hd]
      obtain ⟨c2, t, e2, g4, g5⟩ := hF c' g1
      simp only [e2, Option.bind_some, mk_gKind, mk_gName, mk_gNum]
      rw [if_pos (by simp; omega), wr_i64 (by omega) (by omega), show ((j : Int) + 1) = ((j + 1 : Nat) : Int) by omega]
      obtain ⟨t', c3, e3, g6, l', rfl, g7, g8, g9, g10⟩ := l03Made_L2 (k := k) hd hF (s := s) m (j + 1) (l ++ [t]) c2 (by omega) (by omega) g4 (by simp; omega) (by
        intro y hy
        rcases List.mem_append.1 hy with hy | hy
        · exact h5 y hy
        · rw [List.mem_singleton.1 hy]; exact g5)
      exact ⟨_, c3, e3, g6, l', rfl, g7, .inr (by omega), by omega, g10⟩
    · rw [if_neg (by simpa using q)]
      exact ⟨_, _, rfl, g1, l, rfl, by omega, .inl (by omega), by omega, h5⟩

theorem l03Made : ∀ (d k : Nat), d ≤ 3 → d + 8 ≤ k → ∀ c, CurOk c → ∃ c' t, pspec_l03Made k c (d : Int) = some (c', t) ∧ CurOk c' ∧ MadeT d t
  | _, 0, _, h2, _, _ => by omega
  | d, k + 1, h1, h2, c, h => by
    rw [pspec_l03Made]
    obtain ⟨c1, v, e, g1, g2, g3, _⟩ := l01Below h k 10
    have g3 := g3 (by decide)
    simp only [e, Option.bind_some]
    have leaf : ∀ u : Int, 0 ≤ u → u < 6 → ∃ c' t, pspec_l03Made_J1 k (pspec_l03Made k) (c1, v) (d : Int) u = some (c', t) ∧ CurOk c' ∧ MadeT d t := by
      intro u u1 u2
      unfold pspec_l03Made_J1
      split
      · obtain ⟨c2, w, e2, g4, g5, g6, _⟩ := l01Below g1 k 4
        have g6 := g6 (by decide)
        simp only [e2, Option.bind_some, pspec_l03Var]
        refine ⟨_, _, rfl, g4, MadeT.leaf d (one_var (by omega)) rfl⟩
      split
      · rw [if_pos (by decide)]
        obtain ⟨c2, s, e2, g4, g5⟩ := l01Pick g1 k (l := [(bs [97]), (bs [98]), (bs [91, 93]), (bs [43]), (bs [66, 105, 103]), (bs [120, 32, 121]).extract ((0 : Int) : Int).toNat (1 : Int).toNat, (bs [58, 45]), (bs [61, 46, 46])]) (by decide)
        simp only [e2, Option.bind_some, pspec_l03Atom]
        refine ⟨_, _, rfl, g4, atom_made (names_ok ?_) d⟩
        have hx : (bs [120, 32, 121]).extract ((0 : Int) : Int).toNat (1 : Int).toNat = bs [120] := by decide
        rw [hx] at g5
        simp only [List.mem_cons, List.not_mem_nil, or_false] at g5 ⊢
        rcases g5 with h | h | h | h | h | h | h | h <;> simp [h]
      · rw [if_pos (by rw [decide_eq_true_eq]; exact u2)]
        obtain ⟨c2, s, e2, g4, g5⟩ := l01PickInt g1 k (l := [0, 1, -7, 999999999]) (by decide)
        simp only [e2, Option.bind_some, pspec_l03Num]
        refine ⟨_, _, rfl, g4, MadeT.leaf d (one_int (by
          simp only [List.mem_cons, List.not_mem_nil, or_false] at g5
          omega)) rfl⟩
    cases d with
    | zero =>
      rw [if_pos (by decide), if_pos (by decide)]
      have := Int.tmod_nonneg 6 g2
      have := Int.tmod_lt_of_pos v (b := 6) (by decide)
      exact leaf _ (by omega) (by omega)
    | succ d =>
      rw [if_neg (by rw [decide_eq_true_eq]; omega)]
      have hd : wr.i64 (((d + 1 : Nat) : Int) - 1) = (d : Int) := by rw [wr_i64 (by omega) (by omega)]; omega
      have hF := l03Made d k (by omega) (by omega)
      by_cases u : v < 6
      · exact leaf v g2 u
      unfold pspec_l03Made_J1
      rw [if_neg (by rw [decide_eq_true_eq]; omega), if_neg (by rw [decide_eq_true_eq]; omega), if_neg (by rw [decide_eq_true_eq]; omega)]
      have two : ∀ (s : ByteArray) (x y : GTerm), nmOk s → MadeT d x → MadeT d y → MadeT (d + 1) (.mk 4 s 0 [x, y]) := fun s x y h1 h2 h3 =>
        MadeT.node h1 (by simp) (by simp) (by
          intro z hz
          simp only [List.mem_cons, List.not_mem_nil, or_false] at hz
          rcases hz with rfl | rfl
          · exact h2
          · exact h3)
      split
      · rw [hd]
        obtain ⟨c2, x, e2, g4, g5⟩ := hF c1 g1
        obtain ⟨c3, y, e3, g6, g7⟩ := hF c2 g4
        simp only [e2, e3, Option.bind_some, pspec_l03Two]
        exact ⟨_, _, rfl, g6, two _ _ _ (names_ok (by simp)) g5 g7⟩
      split
      · obtain ⟨c1', s, e1, g1', gs⟩ := l01Pick g1 k (l := [(bs [43]), (bs [61]), (bs [44]), (bs [102]), (bs [59])]) (by decide)
        rw [hd]
        obtain ⟨c2, x, e2, g4, g5⟩ := hF c1' g1'
        obtain ⟨c3, y, e3, g6, g7⟩ := hF c2 g4
        simp only [e1, e2, e3, Option.bind_some, pspec_l03Two]
        refine ⟨_, _, rfl, g6, two _ _ _ (names_ok ?_) g5 g7⟩
        simp only [List.mem_cons, List.not_mem_nil, or_false] at gs ⊢
        rcases gs with h | h | h | h | h <;> simp [h]
      · obtain ⟨c1', s, e1, g1', gs⟩ := l01Pick g1 k (l := [(bs [102]), (bs [103]), (bs [45]), (bs [91, 93])]) (by decide)
        simp only [e1, Option.bind_some]
        obtain ⟨t, c', e2, g4, l', rfl, g5, g6, g7, g8⟩ := l03Made_L2 (k := k) hd hF (s := s) k 0 [] c1' (by omega) (by omega) g1' rfl (fun y hy => by cases hy)
        rw [show ((0 : Nat) : Int) = 0 from rfl] at e2
        rw [e2]
        refine ⟨_, _, rfl, g4, MadeT.node (names_ok ?_) (by omega) g5 g8⟩
        simp only [List.mem_cons, List.not_mem_nil, or_false] at gs ⊢
        rcases gs with h | h | h | h <;> simp [h]
theorem l03Term {c : GL01Cur} (h : CurOk c) {k : Nat} (hk : 1000000 < k - maxLen) : ∃ c' t, pspec_l03Term k c = some (c', t) ∧ CurOk c' ∧ MadeT 3 t := by
  unfold pspec_l03Term
  obtain ⟨c', t, e, h1, h2⟩ := l03Made 3 k (by omega) (by omega) c h
  have h3 := h2.2
  rw [show ((3 : Nat) : Int) = 3 from rfl] at e
  simp only [e, Option.bind_some]
  rw [spec_TermOk (by omega) (gT_ok t 1 (h2.1 1 (by omega))), h2.right]
  exact ⟨_, _, rfl, h1, h2⟩
/-- A term that may be wrong, but not large. -/
def AnyT (x : GTerm) : Prop := x.ok ∧ nT x ≤ 110
theorem MadeT.any {x : GTerm} (h : MadeT 3 x) : AnyT x := ⟨gT_ok x 1 (h.1 1 (by omega)), by have := h.2; omega⟩
theorem l03Any_L1 {k : Nat} {g : GL01Cur × Int} (h1 : 0 ≤ g.2) : ∀ (m j : Nat) (x : GTerm), 42 - j < m → j ≤ 41 → x.ok → nT x ≤ 63 + j → ∃ y, pspec_l03Any_L1 k g m (j : Int) x = some (.done y) ∧ AnyT y
  | 0, j, x, a1, a2, a3, a4 => by omega
  | m + 1, j, x, a1, a2, a3, a4 => by
    rw [pspec_l03Any_L1, if_pos (by decide)]
    have g1 := Int.tmod_nonneg 4 h1
    have g2 := Int.tmod_lt_of_pos g.2 (b := 4) (by decide)
    rw [wr_i64 (x := 38 + Int.tmod g.2 4) (by omega) (by omega)]
    by_cases q : (j : Int) < 38 + Int.tmod g.2 4
    · rw [if_pos (by simpa using q), wr_i64 (by omega) (by omega), show ((j : Int) + 1) = ((j + 1 : Nat) : Int) by omega]
      refine l03Any_L1 h1 m (j + 1) _ (by omega) (by omega) (ok_mk (by omega) (by decide) (by omega) (by simp) ?_) ?_
      · intro y hy; rw [List.mem_singleton.1 hy]; exact a3
      · rw [nT, nTs, nTs]; omega
    · rw [if_neg (by simpa using q)]
      exact ⟨_, rfl, a3, by omega⟩
theorem l03Any {c : GL01Cur} (h : CurOk c) {k : Nat} (hk : 1000000 < k - maxLen) : ∃ c' t, pspec_l03Any k c = some (c', t) ∧ CurOk c' ∧ AnyT t := by
  unfold pspec_l03Any
  obtain ⟨c1, v, e1, h1, l1, u1, _⟩ := l01Below h k 12
  obtain ⟨c2, w, e2, h2, l2, u2, _⟩ := l01Below h1 k 60
  obtain ⟨c3, t, e3, h3, h4⟩ := l03Made 3 k (by omega) (by omega) c2 h2
  rw [show ((3 : Nat) : Int) = 3 from rfl] at e3
  simp only [e1, e2, e3, Option.bind_some]
  have ok := gT_ok t 1 (h4.1 1 (by omega))
  have hn := h4.2
  obtain ⟨o1, o2, o3, o4, o5⟩ : okI .i64 t.gKind ∧ okFs t.gName ∧ okI .i64 t.gNum ∧ t.gKids.length ≤ maxLen ∧ ∀ y ∈ t.gKids, y.ok := by
    clear hn h4
    cases ok with | mk a b c l h1 h2 h3 h4 h5 => exact ⟨h1, h2, h3, h4, h5⟩
  have kk : ∀ q : Int, 0 ≤ q → q ≤ 1000000000 → okI .i64 q := fun q a b => by
    have e1 : IntKind.i64.min = -9223372036854775808 := rfl
    have e2 : IntKind.i64.max = 9223372036854775807 := rfl
    unfold okI; omega
  have nk : ∀ a b c, nT (.mk a b c t.gKids) = nT t := fun a b c => by rw [nT_kids, mk_gKids, ← nT_kids]
  split
  · rw [if_pos (by decide)]
    have := Int.tmod_nonneg 6 l2
    have := Int.tmod_lt_of_pos w (b := 6) (by decide)
    exact ⟨_, _, rfl, h3, .mk _ _ _ _ (kk _ (by omega) (by omega)) o2 o3 o4 o5, by rw [nk]; omega⟩
  split
  · rw [if_pos (by decide)]
    have g1 := Int.tmod_nonneg 4 l2
    have g2 := Int.tmod_lt_of_pos w (b := 4) (by decide)
    obtain ⟨s, e4, hs⟩ := at_mem (l := [(bs []), (bs [97, 32, 98]), (bs [39]), (bs [97, 97, 97, 97, 97, 97, 97, 97, 97, 97, 97, 97, 97, 97, 97, 97, 97, 97, 97, 97, 97])]) g1 (by simpa using g2)
    simp only [e4, Option.bind_some]
    refine ⟨_, _, rfl, h3, .mk _ _ _ _ o1 ?_ o3 o4 o5, by rw [nk]; omega⟩
    have : ∀ s ∈ [(bs []), (bs [97, 32, 98]), (bs [39]), (bs [97, 97, 97, 97, 97, 97, 97, 97, 97, 97, 97, 97, 97, 97, 97, 97, 97, 97, 97, 97, 97])], s.size ≤ 100 := by decide
    have := this s hs
    have hM := maxLen_eq
    unfold okFs; omega
  split
  · rw [if_pos (by decide)]
    have g1 := Int.tmod_nonneg 3 l2
    have g2 := Int.tmod_lt_of_pos w (b := 3) (by decide)
    obtain ⟨s, e4, hs⟩ := at_mem (l := [-1, 100000, 1000000000]) g1 (by simpa using g2)
    simp only [e4, Option.bind_some]
    refine ⟨_, _, rfl, h3, .mk _ _ _ _ o1 o2 ?_ o4 o5, by rw [nk]; omega⟩
    simp only [List.mem_cons, List.not_mem_nil, or_false] at hs
    have e1 : IntKind.i64.min = -9223372036854775808 := rfl
    have e2 : IntKind.i64.max = 9223372036854775807 := rfl
    unfold okI; omega
  split
  · obtain ⟨y, e4, hy⟩ := l03Any_L1 (k := k) (g := (c2, w)) l2 k 0 t (by omega) (by omega) ok (by omega)
    rw [show ((0 : Nat) : Int) = 0 from rfl] at e4
    rw [e4]
    exact ⟨_, _, rfl, h3, hy⟩
  · exact ⟨_, _, rfl, h3, ok, by omega⟩
/-- The lines that are read. -/
def LINES : List ByteArray := (pspec_l08Lines 0).getD []
theorem l08Lines (k : Nat) : pspec_l08Lines k = some LINES := rfl
theorem lines_len : LINES.length = 29 := rfl
def lineOk (k : Nat) (s : ByteArray) : Bool :=
  match pspec_ReadTerm k (s ++ bs [32, 46]) with
  | some v => tOk v.1 && decide (sumOk s (bs [32, 46]))
  | none => false
theorem lines_ok (n : Nat) : LINES.all (lineOk (n + 3000)) = true := by kernel_rfl
theorem line_read {k : Nat} (hk : 3000 ≤ k) {s : ByteArray} (hs : s ∈ LINES) : ∃ p, pspec_ReadTerm k (s ++ bs [32, 46]) = some p ∧ tOk p.1 = true ∧ sumOk s (bs [32, 46]) := by
  have h := lines_ok (k - 3000)
  rw [Nat.sub_add_cancel hk] at h
  have h := List.all_eq_true.1 h s hs
  unfold lineOk at h
  cases e : pspec_ReadTerm k (s ++ bs [32, 46]) with
  | none => rw [e] at h; cases h
  | some p =>
    rw [e] at h
    simp only [Bool.and_eq_true, decide_eq_true_eq] at h
    exact ⟨p, rfl, h.1, h.2⟩
theorem ite_ex {α : Type} {c : Prop} [Decidable c] {a b : Option α} (ha : ∃ x, a = some x) (hb : ∃ x, b = some x) : ∃ x, (if c then a else b) = some x := by
  split
  · exact ha
  · exact hb
theorem control (k : Nat) (s : ByteArray) : ∃ b, pspec_Control k s = some b := by
  have J : ∀ d, ∃ b, pspec_Control_J1 k s d = some b := by
    intro d; unfold pspec_Control_J1
    repeat' (first | apply ite_ex | exact ⟨_, rfl⟩)
  unfold pspec_Control
  repeat' (first | exact J _ | apply ite_ex | exact ⟨_, rfl⟩)
theorem decimal5 {k : Nat} {n : Nat} (h : n ≤ 5) (hk : 100 ≤ k) : ∃ s, pspec_Decimal k (n : Int) = some s ∧ s.size ≤ 1 := by
  obtain ⟨q, rfl⟩ : ∃ q, k = q + 100 := ⟨k - 100, by omega⟩
  match n, h with
  | 0, _ => exact ⟨bs [48], by kernel_rfl, by decide⟩
  | 1, _ => exact ⟨bs [49], by kernel_rfl, by decide⟩
  | 2, _ => exact ⟨bs [50], by kernel_rfl, by decide⟩
  | 3, _ => exact ⟨bs [51], by kernel_rfl, by decide⟩
  | 4, _ => exact ⟨bs [52], by kernel_rfl, by decide⟩
  | 5, _ => exact ⟨bs [53], by kernel_rfl, by decide⟩
  | n + 6, h => omega
theorem predOf {k : Nat} {x : GTerm} (h1 : x.gKids.length ≤ 5) (h2 : x.gName.size ≤ 1000) (hk : maxLen < k) : ∃ s, pspec_PredOf k x = some s := by
  have hM := maxLen_eq
  obtain ⟨s, e, hs⟩ := decimal5 (k := k) h1 (by omega)
  have J : ∃ s, pspec_PredOf_J1 k x = some s := by
    unfold pspec_PredOf_J1
    have h3 : (bs [47]).size = 1 := by decide
    rw [if_pos (by unfold sumOk; omega), e]
    simp only [Option.bind_some]
    rw [if_pos (by unfold sumOk; rw [ByteArray.size_append]; omega)]
    exact ⟨_, rfl⟩
  unfold pspec_PredOf
  split
  · split
    · exact ⟨_, rfl⟩
    · exact J
  · exact J
/-- A term of a clause that was made. -/
def SmT (x : GTerm) : Prop := x.ok ∧ nT x ≤ 400
theorem sm0 : SmT (.mk 0 (bs []) 0 []) := ⟨ok_mk (by omega) (by decide) (by omega) (by simp) (by simp), by rw [nT, nTs]; omega⟩
theorem kid_of {x : GTerm} {d : Int} (h : gT d x = true) {y : GTerm} (hy : y ∈ x.gKids) : gT (d + 1) y = true ∧ nT y + 1 ≤ nT x := by
  rw [gT_eq] at h
  simp only [Bool.and_eq_true] at h
  refine ⟨?_, by have := nsum_mem (n := nT) hy; rw [nT_kids x]; omega⟩
  have : ∀ (l : List GTerm) (d : Int), gTs d l = true → ∀ y ∈ l, gT d y = true := by
    intro l
    induction l with
    | nil => intro d _ y hy; cases hy
    | cons x l ih =>
      intro d h y hy
      rw [gTs, Bool.and_eq_true] at h
      cases hy with
      | head => exact h.1
      | tail _ hy => exact ih d h.2 y hy
  exact this _ _ h.2.2 y hy
theorem gT_shape {x : GTerm} {d : Int} (h : gT d x = true) : x.gKids.length ≤ 5 ∧ x.gName.size ≤ 20 := by
  rw [gT_eq] at h
  simp only [Bool.and_eq_true] at h
  have := one_ok h.2.1
  omega
theorem l03Is {k : Nat} {x : GTerm} {s : ByteArray} {n : Int} : pspec_l03Is k x s n = some ((x.gKind == 4) && (sEq x.gName s && ((x.gKids.length : Int) == n))) := by
  unfold pspec_l03Is
  cases x.gKind == 4 <;> cases sEq x.gName s <;> rfl

theorem clauseOf {k : Nat} {x : GTerm} {s : ByteArray} (hk : 1000000 < k - maxLen) (hx : x.ok) (hn : nT x ≤ 400) (hs : s.size ≤ 1000) : ∃ c b, pspec_ClauseOf k x s = some (c, b) ∧ SmT c.gHead ∧ SmT c.gBody ∧ c.gFile.size ≤ 1000 := by
  have hM := maxLen_eq
  unfold pspec_ClauseOf
  have fin : ∀ c : GClause, SmT c.gHead → SmT c.gBody → pspec_l34Clause k c = some c := by
    intro c h1 h2
    unfold pspec_l34Clause
    rw [l34Term (by have := h1.2; omega) (by have := h1.2; omega)]
    simp only [Option.bind_some]
    rw [l34Term (by have := h2.2; omega) (by have := h2.2; omega)]
    rfl
  have raw : ∃ c b, pspec_l08ClauseOfRaw k x s = some (c, b) ∧ SmT c.gHead ∧ SmT c.gBody ∧ c.gFile.size ≤ 1000 := by
    have hz : (bs []).size ≤ 1000 := by decide
    unfold pspec_l08ClauseOfRaw
    rw [spec_TermOk (by omega) hx]
    simp only [Option.bind_some]
    cases ht : tOk x with
    | false => simp only [Bool.not_false, if_true]; exact ⟨_, _, rfl, sm0, sm0, hz⟩
    | true =>
      simp only [Bool.not_true, Bool.false_eq_true, if_false, pspec_l03Atom, l03Is, Option.bind_some]
      have hg : gT 1 x = true := by
        unfold tOk at ht; simp only [Bool.and_eq_true] at ht; exact ht.2
      have J : ∀ c : GClause, (∃ d, gT d c.gHead = true) → SmT c.gHead → SmT c.gBody → c.gFile.size ≤ 1000 → ∃ c' b, pspec_l08ClauseOfRaw_J1 k c = some (c', b) ∧ SmT c'.gHead ∧ SmT c'.gBody ∧ c'.gFile.size ≤ 1000 := by
        intro c ⟨d, hd⟩ h1 h2 h3
        unfold pspec_l08ClauseOfRaw_J1 pspec_l08Head
        have hsh := gT_shape hd
        obtain ⟨p, e⟩ := predOf (k := k) (x := c.gHead) hsh.1 (by omega) (kz hk)
        obtain ⟨b, e2⟩ := control k p
        rw [e]
        simp only [Option.bind_some, e2]
        have tail : ∀ q : Bool, ∃ c' b, (if (!q) = true then some (GClause.mk (GTerm.mk 0 (bs []) 0 []) (GTerm.mk 0 (bs []) 0 []) (bs []), false) else (pspec_TermOk k c.gBody).bind fun d605_ => if (!d605_) = true then some (GClause.mk (GTerm.mk 0 (bs []) 0 []) (GTerm.mk 0 (bs []) 0 []) (bs []), false) else some (c, true)) = some (c', b) ∧ SmT c'.gHead ∧ SmT c'.gBody ∧ c'.gFile.size ≤ 1000 := by
          intro q
          cases q with
          | false => exact ⟨_, _, rfl, sm0, sm0, hz⟩
          | true =>
            rw [if_neg (by decide), spec_TermOk (by have := h2.2; omega) h2.1]
            simp only [Option.bind_some]
            cases tOk c.gBody with
            | false => exact ⟨_, _, rfl, sm0, sm0, hz⟩
            | true => exact ⟨_, _, rfl, h1, h2, h3⟩
        cases (!sEq p (bs [])) with
        | true => simp only [if_true, Option.bind_some]; exact tail (!b)
        | false => simp only [Bool.false_eq_true, if_false, Option.bind_some]; exact tail false
      cases hc : ((x.gKind == 4) && (sEq x.gName (bs [58, 45]) && ((x.gKids.length : Int) == 2))) with
      | false =>
        rw [if_neg (by decide)]
        exact J _ ⟨1, hg⟩ ⟨hx, hn⟩ ⟨gT_ok _ 1 ((atom_made (s := bs [116, 114, 117, 101]) (by decide +kernel) 3).1 1 (by omega)), by show nT (.mk 2 _ 0 []) ≤ 400; rw [nT, nTs]; omega⟩ hs
      | true =>
        rw [if_pos rfl]
        simp only [Bool.and_eq_true, beq_iff_eq] at hc
        have hl : x.gKids.length = 2 := by omega
        have a0 : at' x.gKids 0 = some x.gKids[0] := at_lt (n := 0) (by omega)
        have a1 : at' x.gKids 1 = some x.gKids[1] := at_lt (n := 1) (by omega)
        rw [a0, a1]
        simp only [Option.bind_some]
        have m0 := kid_of hg (List.getElem_mem (show 0 < x.gKids.length by omega))
        have m1 := kid_of hg (List.getElem_mem (show 1 < x.gKids.length by omega))
        split
        · refine J _ ⟨_, m0.1⟩ ⟨gT_ok _ _ m0.1, by simp only; omega⟩ ⟨ok_mk (by omega) (by decide) (by omega) (by simp) ?_, ?_⟩ hs
          · intro y hy; rw [List.mem_singleton.1 hy]; exact gT_ok _ _ m1.1
          · show nT (.mk 4 _ 0 [_]) ≤ 400
            rw [nT, nTs, nTs]; omega
        · exact J _ ⟨_, m0.1⟩ ⟨gT_ok _ _ m0.1, by simp only; omega⟩ ⟨gT_ok _ _ m1.1, by simp only; omega⟩ hs
  obtain ⟨c, b, e, h1, h2, h3⟩ := raw
  simp only [e, Option.bind_some, fin c h1 h2]
  exact ⟨_, _, rfl, h1, h2, h3⟩

theorem drawClauseOf {k : Nat} {a : List Int} (ha : a.length ≤ 1048576) (hk : 1000000 < k - maxLen) : ∃ t s, pspec_DrawClauseOf k a = some (t, s) ∧ t.ok ∧ nT t ≤ 400 ∧ s.size ≤ 1000 := by
  have hM := maxLen_eq
  have hone : (bs [111, 110, 101]).size ≤ 1000 := by decide
  unfold pspec_DrawClauseOf
  obtain ⟨c, e1, h1⟩ := l01New (k := k) ha (kz hk)
  obtain ⟨c1, v, e2, h2, l2, u2, _⟩ := l01Below h1 k 4
  obtain ⟨c2, s, e4, h4, hs⟩ := l01Pick h2 k (l := LINES) (by rw [lines_len]; decide)
  obtain ⟨p, e5, r1, r2⟩ := line_read (k := k) (by omega) hs
  rw [e1, obs, e2, obs, l08Lines, obs, e4, obs, if_pos r2, e5, obs]
  split
  · obtain ⟨c3, t, e5, h5, h6⟩ := l03Any h4 (k := k) hk
    simp only [e5, Option.bind_some]
    exact ⟨_, _, rfl, h6.1, by have := h6.2; omega, hone⟩
  split
  · obtain ⟨c3, t, e5, h5, h6⟩ := l03Term h4 (k := k) hk
    obtain ⟨c4, u, e7, h7, h8⟩ := l03Term h5 (k := k) hk
    simp only [e5, e7, Option.bind_some, pspec_l03Two]
    refine ⟨_, _, rfl, ok_mk (by omega) (by decide) (by omega) (by simp) ?_, ?_, hone⟩
    · intro y hy
      simp only [List.mem_cons, List.not_mem_nil, or_false] at hy
      rcases hy with rfl | rfl
      · exact h6.any.1
      · exact h8.any.1
    · have := h6.any.2; have := h8.any.2
      rw [nT, nTs, nTs, nTs]; omega
  · have := tOk_ok r1
    exact ⟨_, _, rfl, this.1, by omega, hone⟩
theorem drawClauseTerm {k : Nat} {a : List Int} (ha : a.length ≤ 1048576) (hk : 1000000 < k - maxLen) : ∃ c, pspec_DrawClauseTerm k a = some c ∧ SmT c.gHead ∧ SmT c.gBody ∧ c.gFile.size ≤ 1000 := by
  have hM := maxLen_eq
  unfold pspec_DrawClauseTerm
  obtain ⟨t, s, e1, h1, h2, h3⟩ := drawClauseOf ha hk
  obtain ⟨c, b, e2, h4, h5, h6⟩ := clauseOf (k := k) (x := t) (s := s) hk h1 h2 h3
  simp only [e1, e2, Option.bind_some]
  exact ⟨_, rfl, h4, h5, h6⟩
namespace TO
theorem eta (x : GTerm) : GTerm.mk x.gKind x.gName x.gNum x.gKids = x := by cases x; rfl
/-- A word is written as it should be. -/
def fm (x : GIns) : Bool :=
  if x.gOp = 1 then (x.gNum == 0) && (x.gMany == 0) else if x.gOp = 5 then x.gNum == 0 else sEq x.gName (bs []) && (x.gMany == 0)
theorem l12Form (k : Nat) (x : GIns) : pspec_l12Form k x = some (fm x) := by
  unfold pspec_l12Form fm
  by_cases h1 : x.gOp = 1
  · rw [if_pos (by simpa using h1), if_pos h1]
    by_cases h : x.gNum = 0 <;> simp [h]
  rw [if_neg (by simpa using h1), if_neg h1]
  by_cases h5 : x.gOp = 5
  · rw [if_pos (by simpa using h5), if_pos h5]
  rw [if_neg (by simpa using h5), if_neg h5]
  cases sEq x.gName (bs []) <;> simp

/-- What reading a term gives, one way and the other. -/
def RdW (l : List GIns) (d : Int) (a : Nat) (t : GTerm) (nx : Int) (ok : Bool) (t' : GTerm) (nx' : Int) : Prop :=
  t'.ok ∧ (nx' = -1 ∨ ∃ n : Nat, nx' = (n : Int) ∧ a < n ∧ n ≤ l.length ∧ a + 1 + nT t' ≤ n) ∧
  (ok = true → nx = nx' ∧ t = t' ∧ 0 ≤ nx' ∧ ∀ i (h : i < l.length), a ≤ i → (i : Int) < nx' → fm l[i] = true) ∧
  (ok = false → nx' = -1 ∨ gT d t' = false ∨ ∃ i, ∃ h : i < l.length, a ≤ i ∧ (i : Int) < nx' ∧ fm l[i] = false)

/-- Where the reading of the parts ends. -/
def EndS (g : GIns) (l : List GIns) (nm : ByteArray) (a j : Nat) (acc : List GTerm) (o : Out (GTerm × Int) (Int × GTerm)) : Prop :=
  match o with
  | .ret r => r = (.mk 0 (bs []) 0 [], -1)
  | .done r => ∃ (n : Nat) (ks : List GTerm), r = ((n : Int), .mk 4 nm 0 (acc ++ ks)) ∧ a ≤ n ∧ n ≤ l.length ∧ a + nsum nT ks ≤ n ∧ (∀ y ∈ ks, y.ok) ∧ j + ks.length ≤ 6 ∧
      (g.gMany ≤ ((j + ks.length : Nat) : Int) ∨ j + ks.length = 6) ∧ (ks = [] ∨ ((j + ks.length : Nat) : Int) ≤ g.gMany)

theorem EndS.lift {g : GIns} {l : List GIns} {nm : ByteArray} {a n j : Nat} {acc : List GTerm} {t : GTerm} {o : Out (GTerm × Int) (Int × GTerm)} (h : EndS g l nm n (j + 1) (acc ++ [t]) o) (h1 : a < n) (h2 : a + 1 + nT t ≤ n) (h3 : t.ok) (h4 : (j : Int) < g.gMany) :
    EndS g l nm a j acc o := by
  cases o with
  | ret r => exact h
  | done r =>
    obtain ⟨q, ks, e, b1, b2, b3, b4, b5, b6, b7⟩ := h
    refine ⟨q, t :: ks, by rw [e]; simp, by omega, b2, by simp only [nsum]; omega, fun y hy => ?_, by simp only [List.length_cons]; omega, ?_, .inr ?_⟩
    · rcases List.mem_cons.1 hy with rfl | hy
      · exact h3
      · exact b4 y hy
    · rcases b6 with b6 | b6
      · left; simp only [List.length_cons]; omega
      · right; simp only [List.length_cons]; omega
    · rcases b7 with rfl | b7
      · simp only [List.length_cons, List.length_nil]; omega
      · simp only [List.length_cons]; omega

theorem mk_k {a : Int} {b : ByteArray} {c : Int} {l : List GTerm} : (GTerm.mk a b c l).gKind = a := rfl
theorem mk_n {a : Int} {b : ByteArray} {c : Int} {l : List GTerm} : (GTerm.mk a b c l).gName = b := rfl
theorem mk_u {a : Int} {b : ByteArray} {c : Int} {l : List GTerm} : (GTerm.mk a b c l).gNum = c := rfl
theorem mk_l {a : Int} {b : ByteArray} {c : Int} {l : List GTerm} : (GTerm.mk a b c l).gKids = l := rfl

theorem wr6 {j : Nat} (h : j < 6) : wr.i64 ((j : Int) + 1) = ((j + 1 : Nat) : Int) := by rw [wr_i64 (by omega) (by omega)]; omega

theorem loopS {k : Nat} {g : GIns} {l : List GIns} {d : Int} {F : List GIns → Int → Int → Option (GTerm × Int)} (nm : ByteArray) (hw : wr.i64 (d + 1) = d + 1)
    (hF : ∀ b : Nat, b ≤ l.length → ∃ t' nx', F l (b : Int) (d + 1) = some (t', nx') ∧ t'.ok ∧ (nx' = -1 ∨ ∃ n : Nat, nx' = (n : Int) ∧ b < n ∧ n ≤ l.length ∧ b + 1 + nT t' ≤ n)) :
    ∀ (m j a : Nat) (acc : List GTerm), 6 - j < m → j ≤ 6 → a ≤ l.length → acc.length ≤ j →
      ∃ o, pspec_l12Term_L2 k F g l d m (a : Int) (j : Int) (.mk 4 nm 0 acc) = some o ∧ EndS g l nm a j acc o
  | 0, j, a, acc, h1, h2, h3, h4 => by omega
  | m + 1, j, a, acc, h1, h2, h3, h4 => by
    unfold pspec_l12Term_L2
    by_cases c1 : (j : Int) < g.gMany
    · rw [if_pos (decide_eq_true c1)]
      by_cases c2 : j < 6
      · rw [if_pos (decide_eq_true (by omega : (j : Int) < 6)), hw]
        obtain ⟨t', nx', e, e1, e2⟩ := hF a h3
        rw [e]
        simp only [Option.bind_some]
        rcases e2 with rfl | ⟨n, rfl, e2, e3, e4⟩
        · rw [if_pos (show decide ((-1 : Int) < 0) = true from rfl)]
          exact ⟨_, rfl, rfl⟩
        · rw [if_neg (by simp), mk_l, mk_k, mk_n, mk_u, if_pos (by simp <;> omega), wr6 c2]
          obtain ⟨o, g1, g2⟩ := loopS nm hw hF m (j + 1) n (acc ++ [t']) (by omega) (by omega) e3 (by simp <;> omega)
          exact ⟨o, g1, g2.lift e2 e4 e1 c1⟩
      · rw [if_neg (by simp <;> omega)]
        exact ⟨_, rfl, a, [], by simp, Nat.le_refl _, h3, by simp [nsum], by simp, by simpa using h2, .inr (by simp <;> omega), .inl rfl⟩
    · rw [if_neg (by simpa using c1)]
      exact ⟨_, rfl, a, [], by simp, Nat.le_refl _, h3, by simp [nsum], by simp, by simpa using h2, .inl (by simp <;> omega), .inl rfl⟩

theorem loopB {k : Nat} {g : GIns} {l : List GIns} {d : Int} {F : List GIns → Int → Int → Option (GTerm × Int)} {I : List GIns → Int → Int → Option (GTerm × Int × Bool)} (nm : ByteArray) (hw : wr.i64 (d + 1) = d + 1) (hg : g.gMany ≤ 5)
    (hF : ∀ b : Nat, b ≤ l.length → ∃ t nx ok t' nx', I l (b : Int) (d + 1) = some (t, nx, ok) ∧ F l (b : Int) (d + 1) = some (t', nx') ∧ RdW l (d + 1) b t nx ok t' nx') :
    ∀ (m j a : Nat) (acc : List GTerm), 6 - j < m → j ≤ 6 → a ≤ l.length → acc.length ≤ j →
      ∃ o o', pimpl_termFrom_d_L4 k I g l d m (a : Int) (j : Int) (.mk 4 nm 0 acc) = some o ∧ pspec_l12Term_L2 k F g l d m (a : Int) (j : Int) (.mk 4 nm 0 acc) = some o' ∧ EndS g l nm a j acc o' ∧
        (match o, o' with
          | .ret r, .ret _ => r.2.2 = false
          | .ret r, .done r' => r.2.2 = false ∧ ((∃ y ∈ r'.2.gKids, gT (d + 1) y = false) ∨ ∃ i, ∃ h : i < l.length, a ≤ i ∧ (i : Int) < r'.1 ∧ fm l[i] = false)
          | .done r, .done r' => r = r' ∧ ∀ i (h : i < l.length), a ≤ i → (i : Int) < r.1 → fm l[i] = true
          | .done _, .ret _ => False)
  | 0, j, a, acc, h1, h2, h3, h4 => by omega
  | m + 1, j, a, acc, h1, h2, h3, h4 => by
    have hS : ∀ b : Nat, b ≤ l.length → ∃ t' nx', F l (b : Int) (d + 1) = some (t', nx') ∧ t'.ok ∧ (nx' = -1 ∨ ∃ n : Nat, nx' = (n : Int) ∧ b < n ∧ n ≤ l.length ∧ b + 1 + nT t' ≤ n) := by
      intro b hb
      obtain ⟨t, nx, ok, t', nx', _, e2, e3, e4, _⟩ := hF b hb
      exact ⟨t', nx', e2, e3, e4⟩
    by_cases c1 : (j : Int) < g.gMany
    · have c2 : j < 6 := by omega
      obtain ⟨t, nx, ok, t', nx', e1, e2, e3, e4, e5, e6⟩ := hF a h3
      have pS : pspec_l12Term_L2 k F g l d (m + 1) (a : Int) (j : Int) (.mk 4 nm 0 acc) = (if (decide (nx' < 0)) = true then some (.ret (GTerm.mk 0 (bs []) 0 [], -1)) else pspec_l12Term_L2 k F g l d m nx' ((j + 1 : Nat) : Int) (.mk 4 nm 0 (acc ++ [t']))) := by
        rw [pspec_l12Term_L2, if_pos (decide_eq_true c1), if_pos (decide_eq_true (by omega : (j : Int) < 6)), hw, e2]
        simp only [Option.bind_some]
        rw [mk_l, mk_k, mk_n, mk_u]
        rw [if_pos (show acc.length + [t'].length ≤ 1073741824 by simp <;> omega), wr6 c2]
      have pI : pimpl_termFrom_d_L4 k I g l d (m + 1) (a : Int) (j : Int) (.mk 4 nm 0 acc) = (if (!ok) = true then some (.ret (GTerm.mk 0 (bs []) 0 [], (a : Int), false)) else pimpl_termFrom_d_L4 k I g l d m nx ((j + 1 : Nat) : Int) (.mk 4 nm 0 (acc ++ [t]))) := by
        rw [pimpl_termFrom_d_L4, if_pos (decide_eq_true c1), hw, e1]
        simp only [Option.bind_some]
        rw [mk_l, mk_k, mk_n, mk_u]
        rw [if_pos (show acc.length + [t].length ≤ 1073741824 by simp <;> omega), wr6 c2]
      rw [pS, pI]
      cases ok with
      | false =>
        rw [if_pos (show (!false) = true from rfl)]
        rcases e4 with rfl | ⟨n, rfl, b1, b2, b3⟩
        · rw [if_pos (show decide ((-1 : Int) < 0) = true from rfl)]
          exact ⟨_, _, rfl, rfl, rfl, rfl⟩
        · rw [if_neg (by simp)]
          obtain ⟨o', g1, g2⟩ := loopS (k := k) (g := g) (d := d) nm hw hS m (j + 1) n (acc ++ [t']) (by omega) (by omega) b2 (by simp <;> omega)
          refine ⟨_, o', rfl, g1, g2.lift b1 b3 e3 c1, ?_⟩
          cases o' with
          | ret r => rfl
          | done r =>
            obtain ⟨q, ks, rfl, q1, q2, q3, q4, q5, q6, q7⟩ := g2
            refine ⟨rfl, ?_⟩
            rcases e6 rfl with h | h | ⟨i, hi, i1, i2, i3⟩
            · omega
            · left; exact ⟨t', by simp [mk_l], h⟩
            · right; exact ⟨i, hi, i1, by simp only; omega, i3⟩
      | true =>
        obtain ⟨rfl, rfl, f1, f2⟩ := e5 rfl
        rcases e4 with rfl | ⟨n, rfl, b1, b2, b3⟩
        · omega
        rw [if_neg (by simp), if_neg (by simp)]
        obtain ⟨o, o', g1, g2, g3, g4⟩ := loopB (k := k) nm hw hg hF m (j + 1) n (acc ++ [t]) (by omega) (by omega) b2 (by simp <;> omega)
        refine ⟨o, o', g1, g2, g3.lift b1 b3 e3 c1, ?_⟩
        cases o with
        | ret r =>
          cases o' with
          | ret r' => exact g4
          | done r' =>
            refine ⟨g4.1, ?_⟩
            rcases g4.2 with h | ⟨i, hi, i1, i2, i3⟩
            · exact .inl h
            · exact .inr ⟨i, hi, by omega, i2, i3⟩
        | done r =>
          cases o' with
          | ret r' => exact g4
          | done r' =>
            refine ⟨g4.1, fun i hi i1 i2 => ?_⟩
            by_cases hin : n ≤ i
            · exact g4.2 i hi hin i2
            · exact f2 i hi i1 (by omega)
    · unfold pspec_l12Term_L2 pimpl_termFrom_d_L4
      rw [if_neg (by simpa using c1), if_neg (by simpa using c1)]
      exact ⟨_, _, rfl, rfl, ⟨a, [], by simp, Nat.le_refl _, h3, by simp [nsum], by simp, by simpa using h2, .inl (by simp <;> omega), .inl rfl⟩, rfl, fun i hi i1 i2 => by simp only at i2; omega⟩

theorem nT_leaf (a : Int) (b : ByteArray) (c : Int) : nT (GTerm.mk a b c []) = 0 := by rw [nT, nTs]
theorem nT_mk (a : Int) (b : ByteArray) (c : Int) (l : List GTerm) : nT (GTerm.mk a b c l) = nsum nT l := by rw [nT, nTs_eq]
theorem ok0 : (GTerm.mk 0 (bs []) 0 []).ok := .mk _ _ _ _ (by unfold okI; decide) (by unfold okFs; decide) (by unfold okI; decide) (by decide) (fun y hy => by cases hy)

theorem RdWGood {l : List GIns} {d : Int} {a : Nat} {t : GTerm} (ha : a < l.length) (ht : t.ok) (hn : nT t = 0) (hf : fm l[a] = true) : RdW l d a t ((a + 1 : Nat) : Int) true t ((a + 1 : Nat) : Int) :=
  ⟨ht, .inr ⟨a + 1, rfl, by omega, by omega, by omega⟩, fun _ => ⟨rfl, rfl, by omega, fun i hi h1 h2 => by
    have : i = a := by omega
    subst this; exact hf⟩, fun h => by cases h⟩
theorem RdWBad {l : List GIns} {d : Int} {a : Nat} {t t' : GTerm} {nx : Int} (ha : a < l.length) (ht : t'.ok) (hn : nT t' = 0) (hf : fm l[a] = false) : RdW l d a t nx false t' ((a + 1 : Nat) : Int) :=
  ⟨ht, .inr ⟨a + 1, rfl, by omega, by omega, by omega⟩, fun h => (by cases h), fun _ => .inr (.inr ⟨a, ha, by omega, by omega, hf⟩)⟩
theorem RdWNo {l : List GIns} {d : Int} {a : Nat} {t : GTerm} {nx : Int} : RdW l d a t nx false (GTerm.mk 0 (bs []) 0 []) (-1) :=
  ⟨ok0, .inl rfl, fun h => (by cases h), fun _ => .inl rfl⟩
theorem gTs_mem {d : Int} : ∀ {l : List GTerm} {y : GTerm}, y ∈ l → gT d y = false → gTs d l = false
  | x :: l, y, h, hy => by
    rw [gTs]
    rcases List.mem_cons.1 h with rfl | h
    · rw [hy]; rfl
    · rw [gTs_mem h hy]; simp

theorem read {l : List GIns} (hl : l.length ≤ 1048576) (hok : ∀ x ∈ l, GIns.ok x) : ∀ (k a : Nat) (d : Int), 1 ≤ d → d ≤ 41 → 60 < (k : Int) + d → a ≤ l.length →
    ∃ t nx ok t' nx', pimpl_termFrom_d k l (a : Int) d = some (t, nx, ok) ∧ pspec_l12Term k l (a : Int) d = some (t', nx') ∧ RdW l d a t nx ok t' nx'
  | 0, a, d, h1, h2, h3, h4 => by omega
  | k + 1, a, d, h1, h2, h3, h4 => by
    have hM := maxLen_eq
    have hwl : wr.i64 ((l.length : Int) - 1) = (l.length : Int) - 1 := wr_i64 (by omega) (by omega)
    have hwd : wr.i64 (d + 1) = d + 1 := wr_i64 (by omega) (by omega)
    by_cases ha : a < l.length
    · have hA : inR (a : Int) 0 ((l.length : Int) - 1) = true := inR_t ⟨by omega, by omega⟩
      have hA' : ¬ decide ((a : Int) ≥ (l.length : Int)) = true := by rw [decide_eq_false (by omega)]; exact Bool.false_ne_true
      by_cases hd : d > 40
      · have hd' : decide (d > 40) = true := decide_eq_true hd
        have pI : pimpl_termFrom_d (k + 1) l (a : Int) d = some (GTerm.mk 0 (bs []) 0 [], (a : Int), false) := by
          rw [pimpl_termFrom_d, if_neg hA', hd', pimpl_termFrom_d_J1, if_pos rfl]
        have pS : pspec_l12Term (k + 1) l (a : Int) d = some (GTerm.mk 0 (bs []) 0 [], -1) := by
          rw [pspec_l12Term, l01In, hwl, hA]
          simp only [Option.bind_some, Bool.not_true, Bool.false_eq_true, if_false]
          rw [if_pos hd']
        exact ⟨_, _, _, _, _, pI, pS, RdWNo⟩
      have hd' : decide (d > 40) = false := decide_eq_false hd
      have hwa : wr.i64 ((a : Int) + 1) = ((a + 1 : Nat) : Int) := wr_succ ha (by omega)
      have hg := hok _ (List.getElem_mem ha)
      generalize hgg : l[a] = g at hg
      have hat : at' l (a : Int) = some g := by rw [at_lt ha, hgg]
      have pI : pimpl_termFrom_d (k + 1) l (a : Int) d = (if ((g.gOp == 1) && ((g.gNum == 0) && (g.gMany == 0))) = true then some (GTerm.mk 2 g.gName 0 [], ((a + 1 : Nat) : Int), true)
          else if ((g.gOp == 2) && (sEq g.gName (bs []) && (g.gMany == 0))) = true then some (GTerm.mk 3 (bs []) g.gNum [], ((a + 1 : Nat) : Int), true)
          else pimpl_termFrom_d_J2 k (pimpl_termFrom_d k) g (a : Int) l d (((g.gOp == 3) || (g.gOp == 4)) && (sEq g.gName (bs []) && (g.gMany == 0)))) := by
        rw [pimpl_termFrom_d, if_neg hA', hd', pimpl_termFrom_d_J1, if_neg Bool.false_ne_true, hat]
        simp only [Option.bind_some, pimpl_atom_d, pimpl_number_d, sEq_refl, beq_self_eq_true, Bool.true_and, Bool.and_true, hwa]
        split
        · rfl
        · split
          · rfl
          · split
            · rename_i c
              congr 1
              simp only [Bool.and_eq_true] at c
              rw [c.1, c.2.1, c.2.2]; rfl
            · rename_i c
              congr 1
              cases h3 : (g.gOp == 3) with
              | false => rfl
              | true =>
                have h4 : (g.gOp == 4) = false := by
                  have : g.gOp = 3 := by simpa using h3
                  rw [this]; rfl
                rw [h3] at c
                rw [h4]
                cases hx : (sEq g.gName (bs []) && (g.gMany == 0)) with
                | false => rfl
                | true => rw [hx] at c; exact absurd rfl c
      have pS : pspec_l12Term (k + 1) l (a : Int) d = (if (g.gOp == 1) = true then some (GTerm.mk 2 g.gName 0 [], ((a + 1 : Nat) : Int)) else if (g.gOp == 2) = true then some (GTerm.mk 3 (bs []) g.gNum [], ((a + 1 : Nat) : Int))
          else pspec_l12Term_J1 k (pspec_l12Term k) g (a : Int) l d ((g.gOp == 3) || (g.gOp == 4))) := by
        rw [pspec_l12Term, l01In, hwl, hA]
        simp only [Option.bind_some, Bool.not_true, Bool.false_eq_true, if_false, hd', hat, pspec_l03Atom, pspec_l03Num, hwa]
        split
        · rfl
        · split
          · rfl
          · split
            · rename_i c
              rw [c]; rfl
            · rename_i c
              rw [Bool.eq_false_iff.2 c]; rfl
      have hnm := hg.2.1
      have okL : ∀ (q : Int) (nm : ByteArray) (u : Int), okI .i64 q → okFs nm → okI .i64 u → (GTerm.mk q nm u []).ok := fun q nm u a1 a2 a3 => .mk _ _ _ _ a1 a2 a3 (by simp) (fun y hy => by cases hy)
      have kq : ∀ q : Int, 0 ≤ q → q ≤ 5 → okI .i64 q := fun q h0 h1 => by
        have e1 : IntKind.i64.min = -9223372036854775808 := rfl
        have e2 : IntKind.i64.max = 9223372036854775807 := rfl
        unfold okI; omega
      have nb : okFs (bs []) := by unfold okFs; decide
      have hfm : fm l[a] = fm g := by rw [hgg]
      -- what it is when no word fits
      have noI : ((g.gOp == 5) && (g.gNum == 0)) = false → pimpl_termFrom_d_J2 k (pimpl_termFrom_d k) g (a : Int) l d false = some (GTerm.mk 0 (bs []) 0 [], ((a + 1 : Nat) : Int), false) := by
        intro h5
        rw [pimpl_termFrom_d_J2, if_neg Bool.false_ne_true, sEq_refl]
        simp only [beq_self_eq_true, Bool.true_and, Bool.and_true, h5, Bool.not_false, if_true]
        rw [pimpl_termFrom_d_J3, if_pos rfl, hwa]
      by_cases o1 : g.gOp = 1
      · have b1 : (g.gOp == 1) = true := by simpa using o1
        have b2 : (g.gOp == 2) = false := by rw [o1]; rfl
        have b3 : (g.gOp == 3) = false := by rw [o1]; rfl
        have b4 : (g.gOp == 4) = false := by rw [o1]; rfl
        have b5 : (g.gOp == 5) = false := by rw [o1]; rfl
        rw [b1, if_pos rfl] at pS
        rw [b1, b2, b3, b4] at pI
        simp only [Bool.true_and, Bool.false_and, Bool.or_self, Bool.false_eq_true, if_false] at pI
        have ef : fm g = ((g.gNum == 0) && (g.gMany == 0)) := by unfold fm; rw [if_pos o1]
        cases hf : fm g with
        | true =>
          rw [← ef, hf, if_pos rfl] at pI
          exact ⟨_, _, _, _, _, pI, pS, RdWGood ha (okL _ _ _ (kq 2 (by decide) (by decide)) hnm (kq 0 (by decide) (by decide))) (nT_leaf _ _ _) (hfm.trans hf)⟩
        | false =>
          rw [← ef, hf, if_neg Bool.false_ne_true, noI (by rw [b5]; rfl)] at pI
          exact ⟨_, _, _, _, _, pI, pS, RdWBad ha (okL _ _ _ (kq 2 (by decide) (by decide)) hnm (kq 0 (by decide) (by decide))) (nT_leaf _ _ _) (hfm.trans hf)⟩
      have b1 : (g.gOp == 1) = false := by simpa using o1
      rw [b1] at pI pS
      simp only [Bool.false_and, Bool.false_eq_true, if_false] at pI pS
      by_cases o2 : g.gOp = 2
      · have b2 : (g.gOp == 2) = true := by simpa using o2
        have b3 : (g.gOp == 3) = false := by rw [o2]; rfl
        have b4 : (g.gOp == 4) = false := by rw [o2]; rfl
        have b5 : (g.gOp == 5) = false := by rw [o2]; rfl
        rw [b2, if_pos rfl] at pS
        rw [b2, b3, b4] at pI
        simp only [Bool.true_and, Bool.false_and, Bool.or_self] at pI
        have ef : fm g = (sEq g.gName (bs []) && (g.gMany == 0)) := by unfold fm; rw [if_neg o1, if_neg (by rw [o2]; decide)]
        have okt := okL 3 (bs []) g.gNum (kq 3 (by decide) (by decide)) nb hg.2.2.1
        cases hf : fm g with
        | true =>
          rw [← ef, hf, if_pos rfl] at pI
          exact ⟨_, _, _, _, _, pI, pS, RdWGood ha okt (nT_leaf _ _ _) (hfm.trans hf)⟩
        | false =>
          rw [← ef, hf, if_neg Bool.false_ne_true, noI (by rw [b5]; rfl)] at pI
          exact ⟨_, _, _, _, _, pI, pS, RdWBad ha okt (nT_leaf _ _ _) (hfm.trans hf)⟩
      have b2 : (g.gOp == 2) = false := by simpa using o2
      rw [b2] at pI pS
      simp only [Bool.false_and, Bool.false_eq_true, if_false] at pI pS
      cases o3 : ((g.gOp == 3) || (g.gOp == 4)) with
      | true =>
        have o3' : g.gOp = 3 ∨ g.gOp = 4 := by simpa using o3
        have b5 : (g.gOp == 5) = false := by rcases o3' with h | h <;> rw [h] <;> rfl
        rw [o3] at pI pS
        rw [pspec_l12Term_J1, if_pos rfl, pspec_l03Var] at pS
        simp only [Option.bind_some, hwa] at pS
        simp only [Bool.true_and] at pI
        have ef : fm g = (sEq g.gName (bs []) && (g.gMany == 0)) := by unfold fm; rw [if_neg o1, if_neg (by rcases o3' with h | h <;> rw [h] <;> decide)]
        have okt := okL 1 (bs []) g.gNum (kq 1 (by decide) (by decide)) nb hg.2.2.1
        cases hf : fm g with
        | true =>
          rw [← ef, hf, pimpl_termFrom_d_J2, if_pos rfl, pimpl_variable_d] at pI
          simp only [Option.bind_some, hwa] at pI
          exact ⟨_, _, _, _, _, pI, pS, RdWGood ha okt (nT_leaf _ _ _) (hfm.trans hf)⟩
        | false =>
          rw [← ef, hf, noI (by rw [b5]; rfl)] at pI
          exact ⟨_, _, _, _, _, pI, pS, RdWBad ha okt (nT_leaf _ _ _) (hfm.trans hf)⟩
      | false =>
        rw [o3] at pI pS
        simp only [Bool.false_and] at pI
        rw [pspec_l12Term_J1, if_neg Bool.false_ne_true] at pS
        by_cases o5 : g.gOp = 5
        · have b5 : (g.gOp == 5) = true := by simpa using o5
          rw [b5, if_pos rfl, hwa] at pS
          have ef : fm g = (g.gNum == 0) := by unfold fm; rw [if_neg o1, if_pos o5]
          have hF := fun b hb => read hl hok k b (d + 1) (by omega) (by omega) (by omega) hb
          have hSp : ∀ b : Nat, b ≤ l.length → ∃ t' nx', pspec_l12Term k l (b : Int) (d + 1) = some (t', nx') ∧ t'.ok ∧ (nx' = -1 ∨ ∃ n : Nat, nx' = (n : Int) ∧ b < n ∧ n ≤ l.length ∧ b + 1 + nT t' ≤ n) := by
            intro b hb
            obtain ⟨t, nx, ok, t', nx', _, e2, e3, e4, _⟩ := hF b hb
            exact ⟨t', nx', e2, e3, e4⟩
          -- what the parts make
          have mkR : ∀ (n : Nat) (ks : List GTerm), a + 1 ≤ n → n ≤ l.length → a + 1 + nsum nT ks ≤ n → (∀ y ∈ ks, y.ok) → ks.length ≤ 6 → (GTerm.mk 4 g.gName 0 ks).ok ∧ a + 1 + nT (GTerm.mk 4 g.gName 0 ks) ≤ n := by
            intro n ks q1 q2 q3 q4 q5
            exact ⟨.mk _ _ _ _ (kq 4 (by decide) (by decide)) hnm (kq 0 (by decide) (by decide)) (by omega) q4, by rw [nT_mk]; exact q3⟩
          have failS : ∀ t nx, pimpl_termFrom_d (k + 1) l (a : Int) d = some (t, nx, false) → (fm g = false ∨ ¬ (1 ≤ g.gMany ∧ g.gMany ≤ 5)) →
              ∃ t nx ok t' nx', pimpl_termFrom_d (k + 1) l (a : Int) d = some (t, nx, ok) ∧ pspec_l12Term (k + 1) l (a : Int) d = some (t', nx') ∧ RdW l d a t nx ok t' nx' := by
            intro t nx hI hbad
            obtain ⟨o, g1, g2⟩ := loopS (k := k) (g := g) (d := d) g.gName hwd hSp k 0 (a + 1) [] (by omega) (by omega) (by omega) (by simp)
            rw [show ((0 : Nat) : Int) = 0 from rfl] at g1
            rw [g1] at pS
            simp only [Option.bind_some] at pS
            cases o with
            | ret r =>
              have e : r = (.mk 0 (bs []) 0 [], -1) := g2
              subst e
              exact ⟨_, _, _, _, _, hI, pS, RdWNo⟩
            | done r =>
              obtain ⟨n, ks, rfl, q1, q2, q3, q4, q5, q6, q7⟩ := g2
              simp only [List.nil_append, Nat.zero_add] at q5 q6 q7 pS
              obtain ⟨r1, r2⟩ := mkR n ks q1 q2 q3 q4 q5
              refine ⟨_, _, _, _, _, hI, pS, r1, .inr ⟨n, rfl, by omega, q2, r2⟩, fun h => (by cases h), fun _ => .inr ?_⟩
              rcases hbad with hb | hb
              · exact .inr ⟨a, ha, Nat.le_refl _, by omega, hfm.trans hb⟩
              · left
                have : inR (ks.length : Int) 1 5 = false := inR_f (by
                  rcases q7 with rfl | q7
                  · simp only [List.length_nil]; omega
                  · omega)
                rw [gT_eq]
                have e1 : one (GTerm.mk 4 g.gName 0 ks) = false := by
                  unfold one
                  rw [mk_k, if_neg (by decide), if_neg (by decide), if_neg (by decide), if_pos rfl, mk_l, this]
                  simp
                rw [e1]; simp
          cases hf : fm g with
          | false =>
            rw [noI (by rw [← ef, hf]; simp)] at pI
            exact failS _ _ pI (.inl hf)
          | true =>
            rw [ef] at hf
            rw [pimpl_termFrom_d_J2, if_neg Bool.false_ne_true, sEq_refl] at pI
            simp only [beq_self_eq_true, Bool.true_and, Bool.and_true, b5, hf, Bool.not_true, Bool.false_eq_true, if_false, within, Option.bind_some] at pI
            by_cases hmany : 1 ≤ g.gMany ∧ g.gMany ≤ 5
            · rw [inR_t hmany, Bool.not_true, pimpl_termFrom_d_J3, if_neg Bool.false_ne_true, pimpl_structure_d, hwa] at pI
              simp only [Option.bind_some] at pI
              obtain ⟨o, o', g1, g2, g3, g4⟩ := loopB (k := k) (g := g) (d := d) g.gName hwd hmany.2 hF k 0 (a + 1) [] (by omega) (by omega) (by omega) (by simp)
              rw [show ((0 : Nat) : Int) = 0 from rfl] at g1 g2
              rw [g1] at pI
              rw [g2] at pS
              simp only [Option.bind_some] at pI pS
              cases o' with
              | ret r' =>
                have e : r' = (.mk 0 (bs []) 0 [], -1) := g3
                subst e
                cases o with
                | ret r =>
                  obtain ⟨t, nx, ok⟩ := r
                  have e : ok = false := g4
                  subst e
                  exact ⟨_, _, _, _, _, pI, pS, RdWNo⟩
                | done r => exact g4.elim
              | done r' =>
                obtain ⟨n, ks, rfl, q1, q2, q3, q4, q5, q6, q7⟩ := g3
                simp only [List.nil_append, Nat.zero_add] at q5 q6 q7 pS g4
                obtain ⟨r1, r2⟩ := mkR n ks q1 q2 q3 q4 q5
                have base : ((n : Int) = -1 ∨ ∃ n' : Nat, (n : Int) = (n' : Int) ∧ a < n' ∧ n' ≤ l.length ∧ a + 1 + nT (GTerm.mk 4 g.gName 0 ks) ≤ n') := .inr ⟨n, rfl, by omega, q2, r2⟩
                cases o with
                | ret r =>
                  obtain ⟨t, nx, ok⟩ := r
                  obtain ⟨e, g4⟩ := g4
                  have e : ok = false := e
                  subst e
                  refine ⟨_, _, _, _, _, pI, pS, r1, base, fun h => (by cases h), fun _ => .inr ?_⟩
                  rcases g4 with ⟨y, y1, y2⟩ | ⟨i, hi, i1, i2, i3⟩
                  · left
                    rw [gT_eq, mk_l, gTs_mem (show y ∈ ks from y1) y2]; simp
                  · exact .inr ⟨i, hi, by omega, i2, i3⟩
                | done r =>
                  obtain ⟨rfl, g5⟩ := g4
                  refine ⟨_, _, _, _, _, pI, pS, r1, base, fun _ => ⟨rfl, rfl, by omega, fun i hi i1 i2 => ?_⟩, fun h => by cases h⟩
                  by_cases hia : i = a
                  · subst hia; rw [hfm, ef]; exact hf
                  · exact g5 i hi (by omega) i2
            · rw [inR_f hmany, Bool.not_false, pimpl_termFrom_d_J3, if_pos rfl] at pI
              exact failS _ _ pI (.inr hmany)
        · have b5 : (g.gOp == 5) = false := by simpa using o5
          rw [b5, if_neg Bool.false_ne_true] at pS
          rw [noI (by rw [b5]; rfl)] at pI
          exact ⟨_, _, _, _, _, pI, pS, RdWNo⟩
    · have hA : inR (a : Int) 0 ((l.length : Int) - 1) = false := inR_f (by omega)
      have hA' : decide ((a : Int) ≥ (l.length : Int)) = true := decide_eq_true (by omega)
      have pI : pimpl_termFrom_d (k + 1) l (a : Int) d = some (GTerm.mk 0 (bs []) 0 [], (a : Int), false) := by
        rw [pimpl_termFrom_d, if_pos hA', pimpl_termFrom_d_J1, if_pos rfl]
      have pS : pspec_l12Term (k + 1) l (a : Int) d = some (GTerm.mk 0 (bs []) 0 [], -1) := by
        rw [pspec_l12Term, l01In, hwl, hA]
        simp only [Option.bind_some, Bool.not_false, if_true]
      exact ⟨_, _, _, _, _, pI, pS, RdWNo⟩

theorem forms {k : Nat} {l : List GIns} (hl : l.length ≤ 1048576) : ∀ (m j : Nat), l.length - j < m → j ≤ l.length →
    ∃ o, pspec_TermOf_L1 k l m (j : Int) = some o ∧ (match o with | .ret r => r = (GTerm.mk 0 (bs []) 0 [], false) ∧ (∃ i, ∃ h : i < l.length, j ≤ i ∧ fm l[i] = false) | .done _ => ∀ i (h : i < l.length), j ≤ i → fm l[i] = true)
  | 0, j, h1, h2 => by omega
  | m + 1, j, h1, h2 => by
    unfold pspec_TermOf_L1
    by_cases hlt : j < l.length
    · rw [if_pos (by simpa using hlt), at_lt hlt]
      simp only [Option.bind_some, l12Form]
      cases hf : fm l[j] with
      | false => exact ⟨.ret (GTerm.mk 0 (bs []) 0 [], false), by simp only [Bool.not_false, if_true], rfl, j, hlt, Nat.le_refl _, hf⟩
      | true =>
        simp only [Bool.not_true, Bool.false_eq_true, if_false]
        rw [wr_succ hlt (by rw [maxLen_eq]; omega)]
        obtain ⟨o, g1, g2⟩ := forms (k := k) hl m (j + 1) (by omega) (by omega)
        refine ⟨o, g1, ?_⟩
        cases o with
        | ret r => obtain ⟨e, i, hi, i1, i2⟩ := g2; exact ⟨e, i, hi, by omega, i2⟩
        | done u =>
          intro i hi i1
          by_cases e : i = j
          · subst e; exact hf
          · exact g2 i hi (by omega)
    · rw [if_neg (by simpa using hlt)]
      exact ⟨_, rfl, fun i hi i1 => by omega⟩

theorem same {k : Nat} {l : List GIns} (hl : l.length ≤ 1048576) (hok : ∀ x ∈ l, GIns.ok x) (hk : maxLen + 1099511627776 < k) : ∃ p, pspec_TermOf k l = some p ∧ pimpl_TermOf_d k l = some p ∧ nT p.1 ≤ 1048576 := by
  have hM := maxLen_eq
  have hb : ∀ m k : Nat, m + 1099511627776 < k → 60 < (k : Int) + 1 ∧ m + 2 * 1048576 + 2 < k ∧ l.length < k := fun m k h => by omega
  obtain ⟨hk1, hk2, hk3⟩ := hb _ _ hk
  obtain ⟨t, nx, ok, t', nx', e1, e2, r1, r2, r3, r4⟩ := read hl hok k 0 1 (by omega) (by omega) hk1 (by omega)
  rw [show ((0 : Nat) : Int) = 0 from rfl] at e1 e2
  have z : nT ((GTerm.mk 0 (bs []) 0 [], false) : GTerm × Bool).1 ≤ 1048576 := by
    show nT (GTerm.mk 0 (bs []) 0 []) ≤ _
    rw [nT_leaf]; exact Nat.zero_le _
  unfold pspec_TermOf pimpl_TermOf_d
  rw [e1, e2]
  simp only [Option.bind_some, eta]
  have zero : ∀ p q : Option (GTerm × Bool), p = some (GTerm.mk 0 (bs []) 0 [], false) → q = some (GTerm.mk 0 (bs []) 0 [], false) → ∃ r, p = some r ∧ q = some r ∧ nT r.1 ≤ 1048576 := by
    rintro p q rfl rfl; exact ⟨_, rfl, rfl, z⟩
  -- the reference says no
  have spec_no : (nx' = -1 ∨ gT 1 t' = false ∨ ∃ i, ∃ h : i < l.length, 0 ≤ i ∧ (i : Int) < nx' ∧ fm l[i] = false) →
      (if (nx' != (l.length : Int)) = true then some (GTerm.mk 0 (bs []) 0 [], false) else (pspec_TermOk k t').bind fun d => if (!d) = true then some (GTerm.mk 0 (bs []) 0 [], false) else (pspec_TermOf_L1 k l k 0).bind fun out1 => match out1 with | .ret r => some r | .done () => some (t', true)) = some (GTerm.mk 0 (bs []) 0 [], false) := by
    intro h
    by_cases hx : nx' = (l.length : Int)
    · rw [if_neg (by simpa using hx)]
      rcases r2 with h0 | ⟨n, rfl, n1, n2, n3⟩
      · omega
      have hnt : nT t' ≤ 1048576 := by omega
      rw [spec_TermOk (k := k) (x := t') (Nat.lt_of_le_of_lt (Nat.add_le_add_right (Nat.add_le_add_left (Nat.mul_le_mul_left 2 hnt) _) 2) hk2) r1]
      simp only [Option.bind_some]
      cases ht : tOk t' with
      | false => rfl
      | true =>
        simp only [Bool.not_true, Bool.false_eq_true, if_false]
        obtain ⟨o, g1, g2⟩ := forms (k := k) hl k 0 (by omega) (by omega)
        rw [show ((0 : Nat) : Int) = 0 from rfl] at g1
        rw [g1]
        simp only [Option.bind_some]
        cases o with
        | ret r => rw [g2.1]
        | done u =>
          rcases h with h | h | ⟨i, hi, _, _, i3⟩
          · omega
          · unfold tOk at ht; rw [h] at ht; simp at ht
          · have := g2 i hi (Nat.zero_le _); rw [i3] at this; cases this
    · rw [if_pos (by simpa using hx)]
  cases ok with
  | false =>
    refine zero _ _ (spec_no (by
      rcases r4 rfl with h | h | ⟨i, hi, i1, i2, i3⟩
      · exact .inl h
      · exact .inr (.inl h)
      · exact .inr (.inr ⟨i, hi, Nat.zero_le _, i2, i3⟩))) (by simp)
  | true =>
    obtain ⟨rfl, rfl, r5, r6⟩ := r3 rfl
    rcases r2 with h0 | ⟨n, rfl, n1, n2, n3⟩
    · omega
    have hnt : nT t ≤ 1048576 := by omega
    have hkt : maxLen + 2 * nT t + 2 < k := Nat.lt_of_le_of_lt (Nat.add_le_add_right (Nat.add_le_add_left (Nat.mul_le_mul_left 2 hnt) _) 2) hk2
    simp only [Bool.not_true, Bool.false_eq_true, if_false]
    by_cases hx : (n : Int) = (l.length : Int)
    · have hx' : ¬ ((n : Int) != (l.length : Int)) = true := by simpa using hx
      rw [if_neg hx', if_neg hx', spec_TermOk hkt r1, impl_TermOk hkt r1]
      simp only [Option.bind_some]
      cases ht : tOk t with
      | false => exact ⟨_, rfl, rfl, z⟩
      | true =>
        simp only [Bool.not_true, Bool.false_eq_true, if_false]
        obtain ⟨o, g1, g2⟩ := forms (k := k) hl k 0 (by omega) (by omega)
        rw [show ((0 : Nat) : Int) = 0 from rfl] at g1
        rw [g1]
        simp only [Option.bind_some]
        cases o with
        | ret r =>
          obtain ⟨_, i, hi, _, i3⟩ := g2
          have := r6 i hi (Nat.zero_le _) (by omega)
          rw [i3] at this; cases this
        | done u => exact ⟨_, rfl, rfl, hnt⟩
    · have hx' : ((n : Int) != (l.length : Int)) = true := by simpa using hx
      rw [if_pos hx', if_pos hx']
      exact ⟨_, rfl, rfl, z⟩

end TO
namespace CO
theorem tOk_small {t : GTerm} (h : tOk t = true) : 1 + nT t ≤ 400 ∧ small (vs t) := by
  unfold tOk at h
  simp only [Bool.and_eq_true, decide_eq_true_eq] at h
  exact ⟨h.1, gT_small t 1 h.2⟩

theorem manyBoth {k : Nat} {x : GClause} (h1 : tOk x.gHead = true) (h2 : tOk x.gBody = true) (hk : maxLen + 1099511627776 < k) :
    ∃ r, pspec_l11Many k x = some r ∧ pimpl_varsUpTo k [x.gHead, x.gBody] = some r := by
  obtain ⟨n1, s1⟩ := tOk_small h1
  obtain ⟨n2, s2⟩ := tOk_small h2
  have hm : maxLen = 9223372036854775807 := maxLen_eq
  have hv : vs (.mk 4 (bs [58, 45]) 0 [x.gHead, x.gBody]) = vs x.gHead ++ vs x.gBody := by simp [vs, vss]
  have hn : nT (.mk 4 (bs [58, 45]) 0 [x.gHead, x.gBody]) = 2 + nT x.gHead + nT x.gBody := by simp only [nT, nTs]; omega
  have hvs : vss [x.gHead, x.gBody] = vs x.gHead ++ vs x.gBody := by simp [vss]
  have hs : small (vs x.gHead ++ vs x.gBody) := fun v hv => by
    rcases List.mem_append.1 hv with hv | hv
    · exact s1 v hv
    · exact s2 v hv
  have hns : nsum nT [x.gHead, x.gBody] = 2 + nT x.gHead + nT x.gBody := by simp only [nsum]; omega
  obtain ⟨r, e1, m1⟩ := varsUpTo k [x.gHead, x.gBody] (by omega) (by omega) (by rw [hvs]; exact hs)
  refine ⟨r, ?_, e1⟩
  unfold pspec_l11Many pspec_ClauseTerm pspec_l08ClauseTermRaw pspec_l03Two pspec_VarsOf
  simp only [Option.bind_some]
  generalize GTerm.mk 4 (bs [58, 45]) 0 [x.gHead, x.gBody] = t at hv hn
  rw [l34Term (by omega) (by omega)]
  simp only [Option.bind_some]
  rw [l03Vars k t (by omega) (by omega) [] (by simp; omega)]
  simp only [Option.bind_some]
  have hu := uniq_len (vs t) []
  have hvl := vs_len t
  have hmem : ∀ v, v ∈ uniq (vs t) [] ↔ v ∈ vs x.gHead ++ vs x.gBody := by
    intro v
    rw [mem_uniq, hv]
    exact ⟨fun h => h.resolve_right (fun h => by cases h), .inl⟩
  obtain ⟨r', e2, m2⟩ := l11Many_L1 (k := k) (l := uniq (vs t) []) (by simp at hu; omega) (fun v hv => hs v ((hmem v).1 hv)) k 0 0 (by omega) (by simp at hu; omega) (by omega)
  rw [show ((0 : Nat) : Int) = 0 from rfl] at e2
  rw [e2]
  rw [List.drop_zero] at m2
  have : r' = r := IsMx.uniq (m2.same hmem) (by rw [hvs] at m1; exact m1)
  rw [this]; rfl

theorem same {k : Nat} {x : GClause} (n1 : nT x.gHead ≤ 1048576) (n2 : nT x.gBody ≤ 1048576) (h1 : x.gHead.ok) (h2 : x.gBody.ok) (hk : maxLen + 1099511627776 < k) :
    ∃ p, pspec_CodeOf k x = some p ∧ pimpl_CodeOf k x = some p ∧ p.1.gHead.length ≤ 400 ∧ p.1.gBody.length ≤ 400 := by
  have f1 := spec_TermOk (k := k) (x := x.gHead) (by omega) h1
  have f2 := impl_TermOk (k := k) (x := x.gHead) (by omega) h1
  have f3 := spec_TermOk (k := k) (x := x.gBody) (by omega) h2
  have f4 := impl_TermOk (k := k) (x := x.gBody) (by omega) h2
  unfold pspec_CodeOf pimpl_CodeOf
  simp only [f1, f2, f3, f4, Option.bind_some]
  cases c1 : tOk x.gHead with
  | false => simp only [Bool.not_false, if_true]; exact ⟨_, rfl, rfl, by simp, by simp⟩
  | true =>
    simp only [Bool.not_true, Bool.false_eq_true, if_false]
    cases c2 : tOk x.gBody with
    | false => simp only [Bool.not_false, if_true]; exact ⟨_, rfl, rfl, by simp, by simp⟩
    | true =>
      simp only [Bool.not_true, Bool.false_eq_true, if_false]
      have l1 := WO_len x.gHead [] n1
      have l2 := WO_len x.gBody (WO x.gHead []).2 n2
      simp only [List.length_nil] at l1
      rw [spec_WordsOf (k := k) (t := x.gHead) (l := []) (by omega) n1 h1 (by simp), impl_WordsOf (k := k) (t := x.gHead) (l := []) (by omega) n1 h1 (by simp)]
      simp only [Option.bind_some]
      rw [spec_WordsOf (k := k) (t := x.gBody) (by omega) n2 h2 (by omega), impl_WordsOf (k := k) (t := x.gBody) (by omega) n2 h2 (by omega)]
      simp only [Option.bind_some]
      obtain ⟨r, e1, e2⟩ := manyBoth c1 c2 hk
      rw [e1, e2]
      exact ⟨_, rfl, rfl, l1.1, l2.1⟩

theorem d_same : @pimpl_CodeOf_d = @pimpl_CodeOf := by kernel_rfl

end CO
theorem ins_ok {a c d : Int} {b : ByteArray} (h1 : -9223372036854775808 ≤ a ∧ a ≤ 9223372036854775807) (h2 : okFs b) (h3 : -9223372036854775808 ≤ c ∧ c ≤ 9223372036854775807) (h4 : -9223372036854775808 ≤ d ∧ d ≤ 9223372036854775807) : GIns.ok (.mk a b c d) := by
  have e1 : IntKind.i64.min = -9223372036854775808 := rfl
  have e2 : IntKind.i64.max = 9223372036854775807 := rfl
  refine ⟨?_, h2, ?_, ?_⟩ <;> unfold okI <;> simp only <;> omega
mutual
theorem W_seen : ∀ (x : GTerm) (d : Int) (s : List Int), gT d x = true → (W x s).2 = uniq (vs x) s ∧ (W x s).1.length = 1 + nT x ∧ ∀ g ∈ (W x s).1, GIns.ok g
  | .mk a b c l, d, s, h => by
    have hk : ∀ q : Int, -9223372036854775808 ≤ q → q ≤ 9223372036854775807 → okI .i64 q := fun q a b => by
      have e1 : IntKind.i64.min = -9223372036854775808 := rfl
      have e2 : IntKind.i64.max = 9223372036854775807 := rfl
      unfold okI; omega
    rw [gT_eq] at h
    simp only [Bool.and_eq_true] at h
    have ho := one_ok h.2.1
    have h1 := h.2.1
    have hz : okFs (bs []) := by unfold okFs; decide
    unfold one at h1
    rw [mk_gKind, mk_gName, mk_gNum, mk_gKids] at h1 ho
    have hM := maxLen_eq
    have hb : okFs b := by unfold okFs; omega
    have hl := h.2.2
    rw [mk_gKids] at hl
    rw [W, vs_eq, nT, mk_gKind, mk_gNum, mk_gKids]
    by_cases k1 : a = 1
    · subst k1
      rw [if_pos rfl] at h1
      simp only [Bool.and_eq_true, beq_iff_eq] at h1
      have : l = [] := List.length_eq_zero_iff.1 (by omega)
      subst this
      rw [if_neg (by decide), if_neg (by decide), if_pos rfl, if_pos rfl, nTs, vss]
      simp only [List.append_nil, uniq]
      split
      · exact ⟨rfl, rfl, fun g hg => by rw [List.mem_singleton.1 hg]; exact ins_ok (by omega) hz (by omega) (by omega)⟩
      · exact ⟨rfl, rfl, fun g hg => by rw [List.mem_singleton.1 hg]; exact ins_ok (by omega) hz (by omega) (by omega)⟩
    rw [if_neg k1] at h1
    by_cases k2 : a = 2
    · subst k2
      rw [if_pos rfl] at h1
      simp only [Bool.and_eq_true, beq_iff_eq] at h1
      have : l = [] := List.length_eq_zero_iff.1 (by omega)
      subst this
      rw [if_pos rfl, if_neg (by decide), nTs, vss]
      simp only [List.append_nil, uniq]
      exact ⟨trivial, rfl, fun g hg => by rw [List.mem_singleton.1 hg]; exact ins_ok (by omega) hb (by omega) (by omega)⟩
    rw [if_neg k2] at h1
    by_cases k3 : a = 3
    · subst k3
      rw [if_pos rfl] at h1
      simp only [Bool.and_eq_true, beq_iff_eq] at h1
      have : l = [] := List.length_eq_zero_iff.1 (by omega)
      subst this
      rw [if_neg (by decide), if_pos rfl, if_neg (by decide), nTs, vss]
      simp only [List.append_nil, uniq]
      exact ⟨trivial, rfl, fun g hg => by rw [List.mem_singleton.1 hg]; exact ins_ok (by omega) hz (by omega) (by omega)⟩
    have i := Ws_seen l (d + 1) s hl
    rw [if_neg k2, if_neg k3, if_neg k1, if_neg k1]
    refine ⟨by rw [List.nil_append]; exact i.1, by rw [List.length_cons, i.2.1]; omega, fun g hg => ?_⟩
    cases hg with
    | head => exact ins_ok (by omega) hb (by omega) (by omega)
    | tail _ hg => exact i.2.2 g hg
theorem Ws_seen : ∀ (l : List GTerm) (d : Int) (s : List Int), gTs d l = true → (Ws l s).2 = uniq (vss l) s ∧ (Ws l s).1.length = nTs l ∧ ∀ g ∈ (Ws l s).1, GIns.ok g
  | [], d, s, h => by rw [Ws, vss, nTs]; exact ⟨rfl, rfl, fun g hg => by cases hg⟩
  | x :: l, d, s, h => by
    rw [gTs, Bool.and_eq_true] at h
    have a := W_seen x d s h.1
    have b := Ws_seen l d (W x s).2 h.2
    rw [Ws, vss, nTs]
    refine ⟨by rw [b.1, a.1, uniq_app], by simp only [List.length_append]; omega, fun g hg => ?_⟩
    rcases List.mem_append.1 hg with hg | hg
    · exact a.2.2 g hg
    · exact b.2.2 g hg
end

theorem drop_head {α : Type} {l m : List α} {x : α} {a : Nat} (h : l.drop a = x :: m) : a < l.length ∧ at' l (a : Int) = some x ∧ l.drop (a + 1) = m := by
  have hlt : a < l.length := by
    rcases Nat.lt_or_ge a l.length with h' | h'
    · exact h'
    · rw [List.drop_of_length_le h'] at h; cases h
  rw [List.drop_eq_getElem_cons hlt] at h
  obtain ⟨h1, h2⟩ := List.cons.inj h
  exact ⟨hlt, by rw [at_lt hlt, h1], h2⟩

theorem back_L4 {k : Nat} {L : List GIns} (hl : L.length ≤ 1048576) {F : List GIns → Int → Int → Option (GTerm × Int × Bool)} {d : Int} {nm : ByteArray} {ks : List GTerm} (hk5 : ks.length ≤ 5) (hw : wr.i64 (d + 1) = d + 1)
    (hF : ∀ x ∈ ks, ∀ (s : List Int) (a : Nat) (post : List GIns), L.drop a = (W x s).1 ++ post → F L (a : Int) (d + 1) = some (x, ((a + (W x s).1.length : Nat) : Int), true) ∧ L.drop (a + (W x s).1.length) = post) :
    ∀ (m j a : Nat) (s : List Int) (post : List GIns), 6 - j < m → j ≤ ks.length → L.drop a = (Ws (ks.drop j) s).1 ++ post →
      pimpl_termFrom_d_L4 k F (GIns.mk 5 nm 0 (ks.length : Int)) L d m (a : Int) (j : Int) (.mk 4 nm 0 (ks.take j)) = some (.done (((a + (Ws (ks.drop j) s).1.length : Nat) : Int), .mk 4 nm 0 ks))
  | 0, j, a, s, post, h1, h2, h3 => by omega
  | m + 1, j, a, s, post, h1, h2, h3 => by
    rw [pimpl_termFrom_d_L4]
    by_cases c : j < ks.length
    · rw [if_pos (by simpa using c), hw]
      rw [Ws_drop c, List.append_assoc] at h3
      obtain ⟨e, e2⟩ := hF _ (List.getElem_mem c) s a _ h3
      rw [e, obs, if_neg (by simp), mk_gKind, mk_gName, mk_gNum, mk_gKids, if_pos (by simp; omega)]
      dsimp only
      rw [wr_i64 (by omega) (by omega), show ((j : Int) + 1) = ((j + 1 : Nat) : Int) by omega, ← List.take_succ_eq_append_getElem c, back_L4 hl hk5 hw hF m (j + 1) _ (W ks[j] s).2 post (by omega) (by omega) e2, Ws_drop c]
      simp only [List.length_append]
      rw [Nat.add_assoc]
    · rw [if_neg (by simpa using c), List.drop_of_length_le (by omega), List.take_of_length_le (by omega), Ws]
      rfl

theorem back {L : List GIns} (hl : L.length ≤ 1048576) : ∀ (k : Nat) (x : GTerm) (d : Int) (s : List Int) (a : Nat) (post : List GIns), gT d x = true → 1 ≤ d → 60 < (k : Int) + d → L.drop a = (W x s).1 ++ post →
    pimpl_termFrom_d k L (a : Int) d = some (x, ((a + (W x s).1.length : Nat) : Int), true) ∧ L.drop (a + (W x s).1.length) = post
  | 0, x, d, s, a, post, h, h1, h2, h3 => by rw [gT_eq] at h; simp only [Bool.and_eq_true, decide_eq_true_eq] at h; omega
  | k + 1, .mk p b c l, d, s, a, post, h, h1, h2, h3 => by
    have h0 := h
    rw [gT_eq] at h
    simp only [Bool.and_eq_true, decide_eq_true_eq] at h
    have ho := one_ok h.2.1
    have hO := h.2.1
    unfold one at hO
    rw [mk_gKind, mk_gName, mk_gNum, mk_gKids] at hO ho
    have hd := h.1
    have hM := maxLen_eq
    have fin : L.drop (a + (W (.mk p b c l) s).1.length) = post := by
      rw [← List.drop_drop, h3, List.drop_left]
    refine ⟨?_, fin⟩
    have start : ∀ g rest, (W (.mk p b c l) s).1 = g :: rest → pimpl_termFrom_d (k + 1) L (a : Int) d = pimpl_termFrom_d_J1 k (pimpl_termFrom_d k) (a : Int) L d false ∧ at' L (a : Int) = some g ∧ wr.i64 ((a : Int) + 1) = ((a + 1 : Nat) : Int) ∧ L.drop (a + 1) = rest ++ post := by
      intro g rest e
      rw [e] at h3
      obtain ⟨d1, d2, d3⟩ := drop_head h3
      refine ⟨?_, d2, wr_succ d1 (by omega), d3⟩
      rw [pimpl_termFrom_d, if_neg (by rw [decide_eq_true_eq]; omega), decide_eq_false (by omega)]
    have hW := W_eq (.mk p b c l) s
    rw [mk_gKind, mk_gName, mk_gNum, mk_gKids] at hW
    by_cases k1 : p = 1
    · subst k1
      rw [if_pos rfl] at hO
      simp only [Bool.and_eq_true, beq_iff_eq] at hO
      have e1 : l = [] := List.length_eq_zero_iff.1 (by omega)
      have e2 : b = bs [] := sEq_iff.1 hO.2.1
      subst e1 e2
      rw [if_neg (by decide), if_neg (by decide), if_pos rfl] at hW
      by_cases hc : c ∈ s
      · rw [if_pos hc] at hW
        obtain ⟨q1, q2, q3, _⟩ := start (GIns.mk 4 (bs []) c 0) [] (by rw [hW])
        rw [q1, hW, pimpl_termFrom_d_J1, if_neg (by decide), q2]
        simp only [Option.bind_some, sEq_refl, beq_self_eq_true, Bool.true_and, Bool.and_true, pimpl_termFrom_d_J2, pimpl_variable_d, q3]
        rfl
      · rw [if_neg hc] at hW
        obtain ⟨q1, q2, q3, _⟩ := start (GIns.mk 3 (bs []) c 0) [] (by rw [hW])
        rw [q1, hW, pimpl_termFrom_d_J1, if_neg (by decide), q2]
        simp only [Option.bind_some, sEq_refl, beq_self_eq_true, Bool.true_and, Bool.and_true, pimpl_termFrom_d_J2, pimpl_variable_d, q3]
        rfl
    rw [if_neg k1] at hO
    by_cases k2 : p = 2
    · subst k2
      rw [if_pos rfl] at hO
      simp only [Bool.and_eq_true, beq_iff_eq] at hO
      have e1 : l = [] := List.length_eq_zero_iff.1 (by omega)
      have e2 : c = 0 := hO.2.1
      subst e1 e2
      rw [if_pos rfl] at hW
      obtain ⟨q1, q2, q3, _⟩ := start (GIns.mk 1 b 0 0) [] (by rw [hW])
      rw [q1, hW, pimpl_termFrom_d_J1, if_neg (by decide), q2]
      simp only [Option.bind_some, sEq_refl, beq_self_eq_true, Bool.true_and, Bool.and_true, pimpl_atom_d, q3, if_true]
      rfl
    rw [if_neg k2] at hO
    by_cases k3 : p = 3
    · subst k3
      rw [if_pos rfl] at hO
      simp only [Bool.and_eq_true, beq_iff_eq] at hO
      have e1 : l = [] := List.length_eq_zero_iff.1 (by omega)
      have e2 : b = bs [] := sEq_iff.1 hO.2.1
      subst e1 e2
      rw [if_neg (by decide), if_pos rfl] at hW
      obtain ⟨q1, q2, q3, _⟩ := start (GIns.mk 2 (bs []) c 0) [] (by rw [hW])
      rw [q1, hW, pimpl_termFrom_d_J1, if_neg (by decide), q2]
      simp only [Option.bind_some, sEq_refl, beq_self_eq_true, Bool.true_and, Bool.and_true, pimpl_number_d, q3]
      rfl
    rw [if_neg k3] at hO
    by_cases k4 : p = 4
    · subst k4
      rw [if_pos rfl] at hO
      simp only [Bool.and_eq_true, beq_iff_eq] at hO
      have e2 : c = 0 := hO.2.1
      subst e2
      have hlen : 1 ≤ (l.length : Int) ∧ (l.length : Int) ≤ 5 := of_decide_eq_true hO.2.2
      rw [if_neg (by decide), if_neg (by decide), if_neg (by decide)] at hW
      obtain ⟨q1, q2, q3, q4⟩ := start (GIns.mk 5 b 0 (l.length : Int)) (Ws l s).1 (by rw [hW])
      rw [q1, hW, pimpl_termFrom_d_J1, if_neg (by decide), q2]
      have hl4 := back_L4 (k := k) (F := pimpl_termFrom_d k) hl (d := d) (nm := b) (ks := l) (by omega) (wr_i64 (by omega) (by omega))
        (fun x hx s a post hp => back hl k x (d + 1) s a post (kid_of h0 (by rw [mk_gKids]; exact hx)).1 (by omega) (by omega) hp) k 0 (a + 1) s post (by omega) (by omega) q4
      rw [List.drop_zero, List.take_zero, show ((0 : Nat) : Int) = 0 from rfl] at hl4
      simp only [Option.bind_some, sEq_refl, beq_self_eq_true, Bool.true_and, Bool.and_true, pimpl_termFrom_d_J2, within, inR_t hlen]
      rw [if_neg (by simp), if_neg (by simp), if_neg (by simp), if_neg (by simp), if_neg (by simp), pimpl_termFrom_d_J3, if_neg (by simp), pimpl_structure_d]
      simp only [Option.bind_some, q3]
      rw [hl4]
      simp only [Option.bind_some, List.length_cons]
      congr 3
      omega
    · rw [if_neg k4] at hO; cases hO

theorem sameTerm : ∀ (k : Nat) (x : GTerm), maxLen + 2 * nT x + 2 < k → nT x ≤ Huge → pspec_SameTerm k x x = some true
  | 0, x, hw, h => by omega
  | k + 1, x, hw, h => by
    have hk := nT_kids x
    have := nsum_len nT x.gKids
    unfold pspec_SameTerm
    have e := eq2 (f := pspec_SameTerm k) (L := pspec_SameTerm_L1 k (pspec_SameTerm k) x x) (l := x.gKids) (by omega) (fun y hy => by have := nsum_mem (n := nT) hy; exact sameTerm k y (by omega) (by omega)) (fun m i => rfl) (k := k) (by omega)
    rw [if_neg (by simp), if_neg (by simp [sEq_refl]), if_neg (by simp)]
    exact e
theorem sameInts {k : Nat} {l : List Int} (hl : l.length ≤ Huge) (hk : maxLen < k) : plaws_sameInts k l l = some true := by
  unfold plaws_sameInts
  exact eq2_flat (ne := fun x y => x != y) (L := plaws_sameInts_L1 k l l) hl (fun x => by simp) (fun m i => rfl) hk
theorem sameWords {k : Nat} {l : List GIns} (hl : l.length ≤ Huge) (hk : maxLen < k) : plaws_sameWords k l l = some true := by
  unfold plaws_sameWords
  exact eq2_flat (ne := fun p q => !((p.gOp == q.gOp) && (sEq p.gName q.gName && ((p.gNum == q.gNum) && ((p.gMany == q.gMany) && true))))) (L := plaws_sameWords_L1 k l l) hl (fun x => by simp [sEq_refl]) (fun m i => rfl) hk

theorem dW : @pspec_WordsOf_d = @pspec_WordsOf := by kernel_rfl
theorem dI : @pimpl_WordsOf_d = @pimpl_WordsOf := by kernel_rfl
theorem uniq_nil : uniq [] [] = [] := rfl

theorem drawTermOf {k : Nat} {a : List Int} (ha : a.length ≤ 1048576) (hk : 1000000 < k - maxLen) : ∃ l, pspec_DrawTermOf k a = some l ∧ l.length ≤ 1000 ∧ ∀ g ∈ l, GIns.ok g := by
  have hM := maxLen_eq
  have hki : ∀ q : Int, -9223372036854775808 ≤ q → q ≤ 9223372036854775807 → okI .i64 q := fun q a b => by
    have e1 : IntKind.i64.min = -9223372036854775808 := rfl
    have e2 : IntKind.i64.max = 9223372036854775807 := rfl
    unfold okI; omega
  unfold pspec_DrawTermOf pspec_l12Any
  obtain ⟨c, e1, h1⟩ := l01New (k := k) ha (kz hk)
  obtain ⟨c1, v, e2, h2, l2, u2, _⟩ := l01Below h1 k 10
  obtain ⟨c2, w, e3, h3, l3, u3, _⟩ := l01Below h2 k 60
  obtain ⟨c3, t, e4, h4, h5⟩ := l03Term h3 (k := k) hk
  have hg := h5.1 1 (by omega)
  have hn := h5.2
  have hW := W_seen t 1 [] hg
  have hwo : WO t [] = W t [] := by unfold WO; rw [h5.right, if_pos rfl, uniq_nil]
  have e5 : pspec_WordsOf_d k t [] = some (W t []) := by rw [dW, spec_WordsOf (by omega) (by omega) (gT_ok t 1 hg) (by simp), hwo]
  simp only [e1, e2, e3, e4, e5, Option.bind_some]
  generalize hL : (W t []).1 = L at hW
  have hlen := hW.2.1
  have hok := hW.2.2
  rw [if_pos (by simp; omega), if_pos (by omega)]
  have g1 := Int.tmod_nonneg (L.length : Int) l3
  have g2 := Int.tmod_lt_of_pos w (b := (L.length : Int)) (by omega)
  obtain ⟨hi, e6⟩ := at_int g1 g2
  have g3 := Int.tmod_nonneg 7 l3
  have g4 := Int.tmod_lt_of_pos w (b := 7) (by decide)
  have hgi := hok _ (List.getElem_mem hi)
  have q7 : okI .i64 (Int.tmod w 7) := hki _ (by omega) (by omega)
  have set_ok : ∀ (i : Nat) (g : GIns), GIns.ok g → ∀ x ∈ L.set i g, GIns.ok x := fun i g hg x hx => by
    rcases List.mem_or_eq_of_mem_set hx with hx | hx
    · exact hok x hx
    · rw [hx]; exact hg
  split
  · rw [if_pos (by decide), e6]
    exact ⟨_, rfl, by rw [List.length_set]; omega, set_ok _ _ ⟨q7, hgi.2.1, hgi.2.2.1, hgi.2.2.2⟩⟩
  split
  · rw [if_pos (by decide), e6]
    exact ⟨_, rfl, by rw [List.length_set]; omega, set_ok _ _ ⟨hgi.1, hgi.2.1, hgi.2.2.1, q7⟩⟩
  split
  · rw [if_pos (by omega)]
    exact ⟨_, rfl, by rw [List.length_take]; omega, fun g hg => hok g (List.mem_of_mem_take hg)⟩
  split
  · obtain ⟨hi0, e7⟩ := at_int (l := L) (v := 0) (by omega) (by omega)
    rw [e7]
    simp only [Option.bind_some]
    rw [if_pos (by simp; omega)]
    refine ⟨_, rfl, by simp; omega, fun g hg => ?_⟩
    rcases List.mem_append.1 hg with hg | hg
    · exact hok g hg
    · rw [List.mem_singleton.1 hg]; exact hok _ (List.getElem_mem hi0)
  · exact ⟨_, rfl, by show L.length ≤ 1000; omega, hok⟩

theorem drawWordsOf_L1 {k : Nat} : ∀ (m j : Nat) (l : List Int) (c : GL01Cur), 4 - j < m → j ≤ 2 → l.length ≤ j → CurOk c → ∃ l' c', pspec_DrawWordsOf_L1 k m l (j : Int) c = some (.done (l', c')) ∧ CurOk c' ∧ l'.length ≤ 3
  | 0, j, l, c, h1, h2, h3, h4 => by omega
  | m + 1, j, l, c, h1, h2, h3, h4 => by
    rw [pspec_DrawWordsOf_L1]
    obtain ⟨c1, v, e2, g1, l2, u2, _⟩ := l01Below h4 k 3
    have u2 := u2 (by decide)
    simp only [e2, Option.bind_some]
    by_cases q : (j : Int) < v
    · rw [if_pos (by simpa using q)]
      obtain ⟨c2, w, e3, g2, l3, u3, _⟩ := l01Below g1 k 3
      simp only [e3, Option.bind_some]
      rw [if_pos (by simp; omega), wr_i64 (by omega) (by omega), show ((j : Int) + 1) = ((j + 1 : Nat) : Int) by omega]
      exact drawWordsOf_L1 m (j + 1) _ c2 (by omega) (by omega) (by simp; omega) g2
    · rw [if_neg (by simpa using q)]
      exact ⟨_, _, rfl, g1, by omega⟩
theorem drawWordsOf {k : Nat} {a : List Int} (ha : a.length ≤ 1048576) (hk : 1000000 < k - maxLen) : ∃ t l, pspec_DrawWordsOf k a = some (t, l) ∧ AnyT t ∧ l.length ≤ 3 := by
  have hM := maxLen_eq
  unfold pspec_DrawWordsOf
  obtain ⟨c, e1, h1⟩ := l01New (k := k) ha (kz hk)
  obtain ⟨l, c1, e2, h2, h3⟩ := drawWordsOf_L1 (k := k) k 0 [] c (by omega) (by omega) (by simp) h1
  obtain ⟨c2, t, e3, h4, h5⟩ := l03Any h2 (k := k) hk
  rw [show ((0 : Nat) : Int) = 0 from rfl] at e2
  simp only [e1, e2, e3, Option.bind_some]
  exact ⟨_, _, rfl, h5, h3⟩
theorem drawCodeOf {k : Nat} {a : List Int} (ha : a.length ≤ 1048576) (hk : 1000000 < k - maxLen) : ∃ c, pspec_DrawCodeOf k a = some c ∧ SmT c.gHead ∧ SmT c.gBody := by
  have hM := maxLen_eq
  unfold pspec_DrawCodeOf
  obtain ⟨c, e1, h1⟩ := l01New (k := k) ha (kz hk)
  obtain ⟨c1, v, e2, h2⟩ := l01Once h1 k 4
  simp only [e1, e2, Option.bind_some]
  split
  · obtain ⟨c3, t, e3, h3, h4⟩ := l03Any h2 (k := k) hk
    obtain ⟨c4, u, e4, h5, h6⟩ := l03Any h3 (k := k) hk
    simp only [e3, e4, Option.bind_some]
    exact ⟨_, rfl, ⟨h4.1, by have := h4.2; simp only; omega⟩, ⟨h6.1, by have := h6.2; simp only; omega⟩⟩
  · obtain ⟨c, e3, h3, h4, _⟩ := drawClauseTerm ha hk
    simp only [e3, Option.bind_some]
    exact ⟨_, rfl, h3, h4⟩
theorem drawTerm {k : Nat} {a : List Int} (ha : a.length ≤ 1048576) (hk : 1000000 < k - maxLen) : ∃ t, pspec_DrawTerm k a = some t ∧ MadeT 3 t := by
  have hM := maxLen_eq
  unfold pspec_DrawTerm
  obtain ⟨c, e1, h1⟩ := l01New (k := k) ha (kz hk)
  obtain ⟨c3, t, e3, h3, h4⟩ := l03Term h1 (k := k) hk
  simp only [e1, e3, Option.bind_some]
  exact ⟨_, rfl, h4⟩

theorem law (a : List Int) (ha : okL (okI .u8) a) : ∃ k, plaws_FnCodes k a = some true := by
  obtain ⟨k, hk⟩ : ∃ k, 10995116277760 < k - maxLen := ⟨10995116277761 + maxLen, by rw [Nat.add_sub_cancel]; decide⟩
  refine ⟨k, ?_⟩
  have hM := maxLen_eq
  have hH : Huge = 1152921504606846976 := rfl
  unfold plaws_FnCodes plaws_big
  simp only [Option.bind_some]
  by_cases hb : (a.length : Int) > 1048576
  · rw [if_pos (by simpa using hb)]
  rw [if_neg (by simpa using hb)]
  have hl : a.length ≤ 1048576 := by omega
  obtain ⟨t, e1, h1⟩ := drawTerm (k := k) hl (kle 1000000 hk)
  have hg := h1.1 1 (by omega)
  have hn := h1.2
  have hok := gT_ok t 1 hg
  have hW := W_seen t 1 [] hg
  have hwo : WO t [] = W t [] := by unfold WO; rw [h1.right, if_pos rfl, uniq_nil]
  have e2 : pimpl_WordsOf_d k t [] = some (W t []) := by rw [dI, impl_WordsOf (by omega) (by omega) hok (by simp), hwo]
  have e3 : pimpl_TermOf_d k (W t []).1 = some (t, true) := by
    unfold pimpl_TermOf_d
    obtain ⟨f, _⟩ := back (L := (W t []).1) (by omega) k t 1 [] 0 [] hg (by omega) (by omega) (by rw [List.drop_zero, List.append_nil])
    rw [show ((0 : Nat) : Int) = 0 from rfl] at f
    rw [f]
    simp only [Option.bind_some, Bool.not_true, Bool.false_eq_true, if_false, Nat.zero_add, bne_self_eq_false]
    rw [impl_TermOk (by omega) hok, h1.right]
    rfl
  obtain ⟨x, e4, x1, x2⟩ := drawCodeOf (k := k) hl (kle 1000000 hk)
  obtain ⟨p, e5, e6, p1, p2⟩ := CO.same (k := k) (x := x) (by have := x1.2; omega) (by have := x2.2; omega) x1.1 x2.1 (kk _ hk)
  rw [← CO.d_same] at e6
  obtain ⟨l, e7, l1, l2⟩ := drawTermOf (k := k) hl (kle 1000000 hk)
  obtain ⟨q, e8, e9, q1⟩ := TO.same (k := k) (l := l) (by omega) l2 (kk _ hk)
  obtain ⟨u, v, e10, u1, v1⟩ := drawWordsOf (k := k) hl (kle 1000000 hk)
  have u2 := u1.2
  have wl := WO_len u v (by omega)
  have e11 : pimpl_WordsOf_d k u v = some (WO u v) := by rw [dI]; exact impl_WordsOf (by omega) (by omega) u1.1 (by omega)
  have e12 : pspec_WordsOf k u v = some (WO u v) := spec_WordsOf (by omega) (by omega) u1.1 (by omega)
  have e13 : pspec_VarsOf k t = some (uniq (vs t) []) := by
    unfold pspec_VarsOf
    rw [l03Vars k t (by omega) (by omega) [] (by simp; omega)]
    rfl
  have e14 : pspec_SizeOf k t = some (((W t []).1.length : Nat) : Int) := by
    unfold pspec_SizeOf
    obtain ⟨r, f, f1, f2, f3⟩ := l03Count k t (by omega) hok 401 (by omega) (by omega)
    rw [f]
    have f4 := f2.2 (by omega)
    have f5 := f3 f4
    simp only [Option.bind_some]
    rw [if_neg (by simp; omega), wr_i64 (by omega) (by omega), hW.2.1, f5]
    congr 1; omega
  have s1 := sameTerm k t (by omega) (by omega)
  have s2 := sameInts (k := k) (l := uniq (vs t) []) (by have := uniq_len (vs t) []; have := vs_len t; simp at *; omega) (by omega)
  have s3 := sameWords (k := k) (l := p.1.gHead) (by omega) (by omega)
  have s4 := sameWords (k := k) (l := p.1.gBody) (by omega) (by omega)
  have s5 := sameTerm k q.1 (by omega) (by omega)
  have s6 := sameWords (k := k) (l := (WO u v).1) (by omega) (by omega)
  have s7 := sameInts (k := k) (l := (WO u v).2) (by omega) (by omega)
  simp only [e1, e2, e3, e4, e5, e6, e7, e8, e9, e10, e11, e12, e13, e14, s1, hW.1, s2, s3, s4, s5, s6, s7, Option.bind_some, if_true, beq_self_eq_true]
end FnCodes
end Go.Proofs.Ythemaodhckmnkaa

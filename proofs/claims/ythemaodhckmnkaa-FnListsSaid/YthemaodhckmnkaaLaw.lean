/- The law, plainly. -/
import Derived.Test.YthemaodhckmnkaaFn
set_option linter.unusedVariables false
set_option linter.unusedSimpArgs false
namespace Go.Proofs.Ythemaodhckmnkaa
open Go.RowKit Go.Bv
namespace FnLists
mutual
/-- How many terms stand in a term. -/
def nT : GTerm → Nat
  | .mk _ _ _ l => nTs l
def nTs : List GTerm → Nat
  | [] => 0
  | x :: l => 1 + nT x + nTs l
end
theorem nTs_eq : ∀ l : List GTerm, nTs l = nsum nT l
  | [] => by rw [nTs]; rfl
  | x :: l => by rw [nTs, nsum, nTs_eq l]
theorem nT_kids (x : GTerm) : nT x = nsum nT x.gKids := by
  cases x with
  | mk a b c l => rw [nT, nTs_eq]; rfl

theorem ok_kids {x : GTerm} (h : x.ok) : okL GTerm.ok x.gKids := by cases h with | mk a b c l h1 h2 h3 h4 h5 => exact ⟨h4, h5⟩
theorem ok_name {x : GTerm} (h : x.ok) : okFs x.gName := by cases h with | mk a b c l h1 h2 h3 h4 h5 => exact h2
theorem ok_kind {x : GTerm} (h : x.ok) : okI .i64 x.gKind := by cases h with | mk a b c l h1 h2 h3 h4 h5 => exact h1
theorem ok_num {x : GTerm} (h : x.ok) : okI .i64 x.gNum := by cases h with | mk a b c l h1 h2 h3 h4 h5 => exact h3

theorem mk_gKind (a : Int) (b : ByteArray) (c : Int) (l : List GTerm) : (GTerm.mk a b c l).gKind = a := rfl
theorem mk_gName (a : Int) (b : ByteArray) (c : Int) (l : List GTerm) : (GTerm.mk a b c l).gName = b := rfl
theorem mk_gNum (a : Int) (b : ByteArray) (c : Int) (l : List GTerm) : (GTerm.mk a b c l).gNum = c := rfl
theorem mk_gKids (a : Int) (b : ByteArray) (c : Int) (l : List GTerm) : (GTerm.mk a b c l).gKids = l := rfl

/-- Is it within these bounds? -/
def inR (x a b : Int) : Bool := decide (a ≤ x ∧ x ≤ b)
theorem inR_t {x a b : Int} (h : a ≤ x ∧ x ≤ b) : inR x a b = true := decide_eq_true h
theorem inR_f {x a b : Int} (h : ¬ (a ≤ x ∧ x ≤ b)) : inR x a b = false := decide_eq_false h

theorem l01In (k : Nat) (x a b : Int) : pspec_l01In k x a b = some (inR x a b) := by
  unfold pspec_l01In inR
  by_cases h : a ≤ x
  · rw [if_pos (by simpa using h)]; simp [h]
  · rw [if_neg (by simpa using h)]; simp [h]

theorem within (k : Nat) (x a b : Int) : pimpl_within k x a b = some (inR x a b) := by
  unfold pimpl_within inR
  by_cases h : a ≤ x
  · rw [if_pos (by simpa using h)]; simp [h]
  · rw [if_neg (by simpa using h)]; simp [h]
theorem bt_le (s : ByteArray) (i : Int) : 0 ≤ bt s i ∧ bt s i ≤ 255 := by
  unfold bt
  have : ((s[i.toNat]?).getD 0).toNat < 256 := ((s[i.toNat]?).getD 0).toNat_lt
  omega
/-- A byte that a name may have. -/
def gb (s : ByteArray) (i : Nat) : Prop := 33 ≤ bt s (i : Int) ∧ bt s (i : Int) ≤ 126 ∧ bt s (i : Int) ≠ 39 ∧ bt s (i : Int) ≠ 34
instance (s : ByteArray) (i : Nat) : Decidable (gb s i) := by unfold gb; infer_instance
/-- A name. -/
def nmOk (s : ByteArray) : Prop := (∀ i, i < s.size → gb s i) ∧ 1 ≤ s.size ∧ s.size ≤ 20
instance (s : ByteArray) : Decidable (nmOk s) := by unfold nmOk; infer_instance

theorem l03Name_L1 (k : Nat) (s : ByteArray) (hs : s.size ≤ maxLen) : ∀ (m n : Nat), n ≤ s.size → s.size - n < m →
    ∃ o, pspec_l03Name_L1 k s m (n : Int) = some o ∧ (match o with | .ret r => r = false ∧ ∃ i, i < s.size ∧ ¬ gb s i | .done _ => ∀ i, n ≤ i → i < s.size → gb s i)
  | 0, n, h1, h2 => by omega
  | m + 1, n, h1, h2 => by
    unfold pspec_l03Name_L1
    by_cases hlt : n < s.size
    · have hg : 0 ≤ (n : Int) ∧ (n : Int).toNat < s.size := ⟨by omega, by simpa using hlt⟩
      have bad : ∀ b : Prop, (gb s n → ¬ b) → b → ∃ o, (some (Out.ret false) : Option (Out Bool Unit)) = some o ∧ (match o with | .ret r => r = false ∧ ∃ i, i < s.size ∧ ¬ gb s i | .done _ => ∀ i, n ≤ i → i < s.size → gb s i) :=
        fun b h hb => ⟨_, rfl, rfl, n, hlt, fun h' => h h' hb⟩
      rw [if_pos (by simpa using hlt), if_pos hg]
      by_cases c1 : bt s (n : Int) < 33
      · rw [if_pos (by simpa using c1)]; exact bad _ (fun h => by have := h.1; omega) c1
      rw [if_neg (by simpa using c1), if_pos hg]
      by_cases c2 : bt s (n : Int) > 126
      · rw [if_pos (by simpa using c2)]; exact bad _ (fun h => by have := h.2.1; omega) c2
      rw [if_neg (by simpa using c2), if_pos hg]
      by_cases c3 : bt s (n : Int) = 39
      · rw [if_pos (by simpa using c3)]; exact bad _ (fun h => h.2.2.1) c3
      rw [if_neg (by simpa using c3), if_pos hg]
      by_cases c4 : bt s (n : Int) = 34
      · rw [if_pos (by simpa using c4)]; exact bad _ (fun h => h.2.2.2) c4
      rw [if_neg (by simpa using c4), wr_succ hlt hs]
      obtain ⟨o, h3, h4⟩ := l03Name_L1 k s hs m (n + 1) (by omega) (by omega)
      refine ⟨o, h3, ?_⟩
      cases o with
      | ret r => exact h4
      | done u =>
        intro i hi1 hi2
        by_cases e : i = n
        · subst e; exact ⟨by omega, by omega, c3, c4⟩
        · exact h4 i (by omega) hi2
    · rw [if_neg (by simpa using hlt)]
      exact ⟨_, rfl, fun i h3 h4 => by omega⟩

theorem nameOk_L1 (k : Nat) (s : ByteArray) (hs : s.size ≤ maxLen) : ∀ (m n : Nat), n ≤ s.size → s.size - n < m →
    ∃ o, pimpl_nameOk_L1 k s m (n : Int) = some o ∧ (match o with | .ret r => r = false ∧ ∃ i, i < s.size ∧ ¬ gb s i | .done _ => ∀ i, n ≤ i → i < s.size → gb s i)
  | 0, n, h1, h2 => by omega
  | m + 1, n, h1, h2 => by
    unfold pimpl_nameOk_L1
    by_cases hlt : n < s.size
    · have hg : 0 ≤ (n : Int) ∧ (n : Int).toNat < s.size := ⟨by omega, by simpa using hlt⟩
      have hb := bt_le s (n : Int)
      have bad : ∀ b : Prop, (gb s n → ¬ b) → b → ∃ o, (some (Out.ret false) : Option (Out Bool Unit)) = some o ∧ (match o with | .ret r => r = false ∧ ∃ i, i < s.size ∧ ¬ gb s i | .done _ => ∀ i, n ≤ i → i < s.size → gb s i) :=
        fun b h hb => ⟨_, rfl, rfl, n, hlt, fun h' => h h' hb⟩
      rw [if_pos (by simpa using hlt), if_pos hg, within, wr_i64 (by omega) (by omega)]
      simp only [Option.bind_some]
      by_cases c1 : 33 ≤ bt s (n : Int) ∧ bt s (n : Int) ≤ 126
      · rw [inR_t c1, if_neg (by simp), if_pos hg]
        by_cases c3 : bt s (n : Int) = 39
        · rw [if_pos (by simpa using c3)]; exact bad _ (fun h => h.2.2.1) c3
        rw [if_neg (by simpa using c3), if_pos hg]
        by_cases c4 : bt s (n : Int) = 34
        · rw [if_pos (by simpa using c4)]; exact bad _ (fun h => h.2.2.2) c4
        rw [if_neg (by simpa using c4), wr_succ hlt hs]
        obtain ⟨o, h3, h4⟩ := nameOk_L1 k s hs m (n + 1) (by omega) (by omega)
        refine ⟨o, h3, ?_⟩
        cases o with
        | ret r => exact h4
        | done u =>
          intro i hi1 hi2
          by_cases e : i = n
          · subst e; exact ⟨by omega, by omega, c3, c4⟩
          · exact h4 i (by omega) hi2
      · rw [inR_f c1, if_pos (by simp)]
        exact bad _ (fun h => by have := h.1; have := h.2.1; omega) c1
    · rw [if_neg (by simpa using hlt)]
      exact ⟨_, rfl, fun i h3 h4 => by omega⟩

theorem nm_of {s : ByteArray} (h : ∀ i, 0 ≤ i → i < s.size → gb s i) : inR (s.size : Int) 1 20 = decide (nmOk s) := by
  unfold inR
  rw [decide_eq_decide]
  unfold nmOk
  constructor
  · intro h1; exact ⟨fun i hi => h i (by omega) hi, by omega, by omega⟩
  · intro h1; obtain ⟨_, h5, h6⟩ := h1; omega

theorem l03Name {k : Nat} {s : ByteArray} (hs : s.size ≤ maxLen) (hk : maxLen < k) : pspec_l03Name k s = some (decide (nmOk s)) := by
  unfold pspec_l03Name
  obtain ⟨o, h1, h2⟩ := l03Name_L1 k s hs k 0 (by omega) (by omega)
  rw [show ((0 : Nat) : Int) = 0 from rfl] at h1
  rw [h1]
  cases o with
  | ret r =>
    obtain ⟨rfl, i, h3, h4⟩ := h2
    have : ¬ nmOk s := fun h => h4 (h.1 i h3)
    simp [this]
  | done u =>
    simp only [Option.bind_some]
    rw [l01In]
    simp only [Option.bind_some]
    rw [nm_of h2]

theorem nameOk {k : Nat} {s : ByteArray} (hs : s.size ≤ maxLen) (hk : maxLen < k) : pimpl_nameOk k s = some (decide (nmOk s)) := by
  unfold pimpl_nameOk
  obtain ⟨o, h1, h2⟩ := nameOk_L1 k s hs k 0 (by omega) (by omega)
  rw [show ((0 : Nat) : Int) = 0 from rfl] at h1
  rw [h1]
  cases o with
  | ret r =>
    obtain ⟨rfl, i, h3, h4⟩ := h2
    have : ¬ nmOk s := fun h => h4 (h.1 i h3)
    simp [this]
  | done u =>
    simp only [Option.bind_some]
    rw [within]
    simp only [Option.bind_some]
    rw [nm_of h2]

/-- The head of a term is as it should be. -/
def one (x : GTerm) : Bool :=
  if x.gKind = 1 then inR x.gNum 0 99999 && (sEq x.gName (bs []) && ((x.gKids.length : Int) == 0))
  else if x.gKind = 2 then decide (nmOk x.gName) && ((x.gNum == 0) && ((x.gKids.length : Int) == 0))
  else if x.gKind = 3 then inR x.gNum (-999999999) 999999999 && (sEq x.gName (bs []) && ((x.gKids.length : Int) == 0))
  else if x.gKind = 4 then decide (nmOk x.gName) && ((x.gNum == 0) && inR (x.gKids.length : Int) 1 5)
  else false
mutual
/-- A term, at a depth, is as it should be. -/
def gT : Int → GTerm → Bool
  | d, .mk a b c l => decide (d ≤ 40) && (one (.mk a b c l) && gTs (d + 1) l)
def gTs : Int → List GTerm → Bool
  | _, [] => true
  | d, x :: l => gT d x && gTs d l
end
theorem gT_eq (d : Int) (x : GTerm) : gT d x = (decide (d ≤ 40) && (one x && gTs (d + 1) x.gKids)) := by
  cases x with
  | mk a b c l => rw [gT]; rfl
theorem gTs_drop {d : Int} {l : List GTerm} {j : Nat} (h : j < l.length) : gTs d (l.drop j) = (gT d l[j] && gTs d (l.drop (j + 1))) := by
  rw [List.drop_eq_getElem_cons h, gTs]
theorem ns_drop {l : List GTerm} {j : Nat} (h : j < l.length) : nsum nT (l.drop j) = 1 + nT l[j] + nsum nT (l.drop (j + 1)) := by
  rw [List.drop_eq_getElem_cons h, nsum]

theorem l03One {k : Nat} {x : GTerm} (hx : x.ok) (hk : maxLen < k) : pspec_l03One k x = some (one x) := by
  have hn := l03Name (k := k) (s := x.gName) (ok_name hx) hk
  unfold pspec_l03One one
  simp only [hn, l01In, Option.bind_some]
  by_cases c1 : x.gKind = 1
  · rw [if_pos (by simpa using c1), if_pos c1]
    cases inR x.gNum 0 99999 <;> cases sEq x.gName (bs []) <;> simp
  rw [if_neg (by simpa using c1), if_neg c1]
  by_cases c2 : x.gKind = 2
  · rw [if_pos (by simpa using c2), if_pos c2]
    cases decide (nmOk x.gName) <;> by_cases h : x.gNum = 0 <;> simp [h]
  rw [if_neg (by simpa using c2), if_neg c2]
  by_cases c3 : x.gKind = 3
  · rw [if_pos (by simpa using c3), if_pos c3]
    cases inR x.gNum (-999999999) 999999999 <;> cases sEq x.gName (bs []) <;> simp
  rw [if_neg (by simpa using c3), if_neg c3]
  by_cases c4 : x.gKind = 4
  · rw [if_pos (by simpa using c4), if_pos c4]
    cases decide (nmOk x.gName) <;> by_cases h : x.gNum = 0 <;> simp [h]
  · rw [if_neg (by simpa using c4), if_neg c4]

/-- What is left of so many terms. -/
def leftOf (v left : Int) (n : Nat) : Prop := -1 ≤ v ∧ (0 ≤ v ↔ (n : Int) ≤ left) ∧ (0 ≤ v → v = left - (n : Int))
theorem l03Count_L1 {k : Nat} {x : GTerm} {f : GTerm → Int → Option Int} (hx : x.gKids.length ≤ maxLen) (hf : ∀ y ∈ x.gKids, ∀ b, 0 ≤ b → b ≤ 401 → ∃ v, f y b = some v ∧ leftOf v b (1 + nT y)) :
    ∀ (m j : Nat) (b : Int), j ≤ x.gKids.length → x.gKids.length - j < m → -1 ≤ b → b ≤ 401 →
      ∃ v, pspec_l03Count_L1 k f x m b (j : Int) = some (.done v) ∧ ((b = -1 ∧ v = -1) ∨ (0 ≤ b ∧ leftOf v b (nsum nT (x.gKids.drop j))))
  | 0, j, b, h1, h2, h3, h4 => by omega
  | m + 1, j, b, h1, h2, h3, h4 => by
    unfold pspec_l03Count_L1
    by_cases hlt : j < x.gKids.length
    · rw [if_pos (by simpa using hlt)]
      by_cases hb : 0 ≤ b
      · rw [if_pos (by simpa using hb), at_lt hlt]
        simp only [Option.bind_some]
        obtain ⟨v, e, g1, g2, g3⟩ := hf _ (List.getElem_mem hlt) b hb h4
        rw [e]
        simp only [Option.bind_some]
        rw [wr_succ hlt hx]
        obtain ⟨u, e2, h5⟩ := l03Count_L1 (k := k) hx hf m (j + 1) v (by omega) (by omega) g1 (by by_cases h : 0 ≤ v <;> omega)
        refine ⟨u, e2, .inr ⟨hb, ?_⟩⟩
        rw [ns_drop hlt]
        rcases h5 with ⟨rfl, rfl⟩ | ⟨h6, h7, h8, h9⟩
        · refine ⟨by omega, ⟨fun h => by omega, fun h => by have := g2.2 (by omega); omega⟩, fun h => by omega⟩
        · have := g3 h6
          have := g2.1 h6
          refine ⟨h7, ⟨fun h => by have := h8.1 h; omega, fun h => h8.2 (by omega)⟩, fun h => by have := h9 h; omega⟩
      · rw [if_neg (by simpa using hb)]
        exact ⟨b, rfl, .inl ⟨by omega, by omega⟩⟩
    · rw [if_neg (by simpa using hlt)]
      rw [List.drop_of_length_le (by omega)]
      by_cases hb : 0 ≤ b
      · exact ⟨b, rfl, .inr ⟨hb, h3, by simp only [nsum]; omega, fun _ => by simp only [nsum]; omega⟩⟩
      · exact ⟨b, rfl, .inl ⟨by omega, by omega⟩⟩

theorem l03Count : ∀ (k : Nat) (x : GTerm), maxLen + 2 * nT x + 2 < k → x.ok → ∀ b : Int, 0 ≤ b → b ≤ 401 → ∃ v, pspec_l03Count k x b = some v ∧ leftOf v b (1 + nT x)
  | 0, x, h => by omega
  | k + 1, x, hw => by
    intro hx b h0 h1
    have hn := nT_kids x
    unfold pspec_l03Count
    rw [wr_i64 (by omega) (by omega)]
    obtain ⟨v, e, h⟩ := l03Count_L1 (k := k) (x := x) (ok_kids hx).1 (fun y hy b h0 h1 => by have := nsum_mem (n := nT) hy; exact l03Count k y (by omega) ((ok_kids hx).2 y hy) b h0 h1) k 0 (b - 1) (by omega) (by have := (ok_kids hx).1; omega) (by omega) (by omega)
    rw [show ((0 : Nat) : Int) = 0 from rfl] at e
    rw [e]
    refine ⟨v, rfl, ?_⟩
    rw [List.drop_zero, ← hn] at h
    rcases h with ⟨h2, rfl⟩ | ⟨h2, h3, h4, h5⟩
    · exact ⟨by omega, ⟨fun h => by omega, fun h => by omega⟩, fun h => by omega⟩
    · exact ⟨h3, ⟨fun h => by have := h4.1 h; omega, fun h => h4.2 (by omega)⟩, fun h => by have := h5 h; omega⟩

theorem l03Right_L1 {k : Nat} {x : GTerm} {d : Int} {f : GTerm → Int → Option Bool} (hx : x.gKids.length ≤ maxLen) (hd : wr.i64 (d + 1) = d + 1) (hf : ∀ y ∈ x.gKids, f y (d + 1) = some (gT (d + 1) y)) :
    ∀ (m j : Nat), j ≤ x.gKids.length → x.gKids.length - j < m → pspec_l03Right_L1 k f x d m (j : Int) = some (if gTs (d + 1) (x.gKids.drop j) then .done () else .ret false)
  | 0, j, h1, h2 => by omega
  | m + 1, j, h1, h2 => by
    unfold pspec_l03Right_L1
    by_cases hlt : j < x.gKids.length
    · rw [if_pos (by simpa using hlt), at_lt hlt, hd]
      simp only [Option.bind_some, hf _ (List.getElem_mem hlt)]
      rw [gTs_drop hlt]
      cases hg : gT (d + 1) x.gKids[j] with
      | false => simp
      | true =>
        rw [if_neg (by simp), wr_succ hlt hx, l03Right_L1 hx hd hf m (j + 1) (by omega) (by omega)]
        simp
    · rw [if_neg (by simpa using hlt), List.drop_of_length_le (by omega), gTs]; rfl

theorem l03Right : ∀ (k : Nat) (x : GTerm), maxLen + 2 * nT x + 2 < k → x.ok → ∀ d : Int, 0 ≤ d → d ≤ 41 → pspec_l03Right k x d = some (gT d x)
  | 0, x, h => by omega
  | k + 1, x, hw => by
    intro hx d h0 h1
    have hn := nT_kids x
    unfold pspec_l03Right
    rw [gT_eq]
    by_cases hd : d > 40
    · rw [if_pos (by simpa using hd)]; simp; omega
    · rw [if_neg (by simpa using hd), l03One hx (by omega)]
      simp only [Option.bind_some]
      cases h1 : one x with
      | false => simp
      | true =>
        rw [if_neg (by simp)]
        have e := l03Right_L1 (k := k) (x := x) (d := d) (ok_kids hx).1 (wr_i64 (by omega) (by omega)) (fun y hy => by have := nsum_mem (n := nT) hy; exact l03Right k y (by omega) ((ok_kids hx).2 y hy) (d + 1) (by omega) (by omega)) k 0 (by omega) (by have := (ok_kids hx).1; omega)
        rw [show ((0 : Nat) : Int) = 0 from rfl, List.drop_zero] at e
        rw [e]
        cases gTs (d + 1) x.gKids <;> simp <;> omega

/-- A term is right. -/
def tOk (x : GTerm) : Bool := decide (1 + nT x ≤ 400) && gT 1 x
theorem spec_TermOk {k : Nat} {x : GTerm} (hw : maxLen + 2 * nT x + 2 < k) (hx : x.ok) : pspec_TermOk k x = some (tOk x) := by
  unfold pspec_TermOk tOk
  obtain ⟨v, e, h1, h2, h3⟩ := l03Count k x hw hx 400 (by omega) (by omega)
  rw [e]
  simp only [Option.bind_some]
  by_cases hv : 0 ≤ v
  · rw [if_pos (by simpa using hv), l03Right k x hw hx 1 (by omega) (by omega)]
    have := h2.1 hv
    simp; omega
  · rw [if_neg (by simpa using hv)]
    have : ¬ (1 + nT x ≤ 400) := fun h => hv (h2.2 (by omega))
    simp [this]

/-- What the program counts. -/
def cnt (d : Int) (x : GTerm) : Int := if gT d x && decide (1 + nT x ≤ 400) then ((1 + nT x : Nat) : Int) else 401
theorem sized_L2 {k : Nat} {x : GTerm} {d : Int} {f : GTerm → Int → Option Int} (hx : x.gKids.length ≤ maxLen) (hd : wr.i64 (d + 1) = d + 1) (hf : ∀ y ∈ x.gKids, f y (d + 1) = some (cnt (d + 1) y)) :
    ∀ (m j : Nat) (b : Int), j ≤ x.gKids.length → x.gKids.length - j < m → 1 ≤ b → b ≤ 400 →
      pimpl_sized_L2 k f x d m b (j : Int) = some (if gTs (d + 1) (x.gKids.drop j) && decide (b + (nsum nT (x.gKids.drop j) : Int) ≤ 400) then .done (b + (nsum nT (x.gKids.drop j) : Int)) else .ret 401)
  | 0, j, b, h1, h2, h3, h4 => by omega
  | m + 1, j, b, h1, h2, h3, h4 => by
    unfold pimpl_sized_L2
    by_cases hlt : j < x.gKids.length
    · rw [if_pos (by simpa using hlt), at_lt hlt, hd]
      simp only [Option.bind_some, hf _ (List.getElem_mem hlt)]
      rw [gTs_drop hlt, ns_drop hlt, wr_succ hlt hx]
      by_cases hg : gT (d + 1) x.gKids[j] = true ∧ 1 + nT x.gKids[j] ≤ 400
      · have hc : cnt (d + 1) x.gKids[j] = ((1 + nT x.gKids[j] : Nat) : Int) := by unfold cnt; rw [if_pos (by simpa using hg)]
        rw [hc, wr_i64 (by omega) (by omega)]
        by_cases hs : b + ((1 + nT x.gKids[j] : Nat) : Int) > 400
        · rw [if_pos (by simpa using hs), if_neg]
          simp only [Bool.and_eq_true, decide_eq_true_eq, not_and]
          intro _; omega
        · rw [if_neg (by simpa using hs), sized_L2 hx hd hf m (j + 1) _ (by omega) (by omega) (by omega) (by omega), hg.1, Bool.true_and]
          have e1 : b + ((1 + nT x.gKids[j] : Nat) : Int) + (nsum nT (x.gKids.drop (j + 1)) : Int) = b + ((1 + nT x.gKids[j] + nsum nT (x.gKids.drop (j + 1)) : Nat) : Int) := by omega
          rw [e1]
      · have hc : cnt (d + 1) x.gKids[j] = 401 := by unfold cnt; rw [if_neg (by simpa using hg)]
        rw [hc, wr_i64 (by omega) (by omega), if_pos (by simp; omega), if_neg]
        simp only [Bool.and_eq_true, decide_eq_true_eq, not_and]
        intro h5
        have h6 : ¬ (1 + nT x.gKids[j] ≤ 400) := fun h => hg ⟨h5.1, h⟩
        omega
    · rw [if_neg (by simpa using hlt), List.drop_of_length_le (by omega), gTs, if_pos (by simp only [nsum]; simp; omega)]
      simp [nsum]

theorem sized : ∀ (k : Nat) (x : GTerm), maxLen + 2 * nT x + 2 < k → x.ok → ∀ d : Int, 0 ≤ d → d ≤ 41 → pimpl_sized k x d = some (cnt d x)
  | 0, x, h => by omega
  | k + 1, x, hw => by
    intro hx d h0 h1
    have hn := nT_kids x
    have hnm := nameOk (k := k) (s := x.gName) (ok_name hx) (by omega)
    have hJ : d ≤ 40 → one x = true → pimpl_sized_J1 k (pimpl_sized k) x d = some (cnt d x) := by
      intro hd h1
      unfold pimpl_sized_J1 cnt
      have e := sized_L2 (k := k) (x := x) (d := d) (ok_kids hx).1 (wr_i64 (by omega) (by omega)) (fun y hy => by have := nsum_mem (n := nT) hy; exact sized k y (by omega) ((ok_kids hx).2 y hy) (d + 1) (by omega) (by omega)) k 0 1 (by omega) (by have := (ok_kids hx).1; omega) (by omega) (by omega)
      rw [show ((0 : Nat) : Int) = 0 from rfl, List.drop_zero, ← hn] at e
      rw [e, gT_eq, h1, Bool.true_and, decide_eq_true hd, Bool.true_and]
      have e2 : decide (1 + (nT x : Int) ≤ 400) = decide (1 + nT x ≤ 400) := by rw [decide_eq_decide]; omega
      rw [e2]
      split
      · simp
      · simp
    have hbad : one x = false → (401 : Int) = cnt d x := by
      intro h1; unfold cnt; rw [gT_eq, h1]; simp
    unfold pimpl_sized
    by_cases hd : d > 40
    · rw [if_pos (by simpa using hd)]
      unfold cnt; rw [gT_eq, decide_eq_false (show ¬ d ≤ 40 by omega)]; simp
    have hJ' := hJ (by omega)
    rw [if_neg (by simpa using hd)]
    simp only [hnm, within, Option.bind_some]
    generalize pimpl_sized_J1 k (pimpl_sized k) x d = J at hJ' ⊢
    generalize cnt d x = C at hJ' hbad ⊢
    have hlen : ((x.gKids.length : Int) > 0) ↔ ¬ ((x.gKids.length : Int) = 0) := by omega
    unfold one at hJ' hbad
    by_cases c1 : x.gKind = 1
    · rw [if_pos (by simpa using c1)]
      rw [if_pos c1] at hJ' hbad
      cases h2 : inR x.gNum 0 99999 <;> cases h3 : sEq x.gName (bs []) <;> by_cases h4 : (x.gKids.length : Int) = 0 <;> simp_all
    rw [if_neg (by simpa using c1)]
    rw [if_neg c1] at hJ' hbad
    by_cases c2 : x.gKind = 2
    · rw [if_pos (by simpa using c2)]
      rw [if_pos c2] at hJ' hbad
      cases h2 : decide (nmOk x.gName) <;> by_cases h3 : x.gNum = 0 <;> by_cases h4 : (x.gKids.length : Int) = 0 <;> simp_all
    rw [if_neg (by simpa using c2)]
    rw [if_neg c2] at hJ' hbad
    by_cases c3 : x.gKind = 3
    · rw [if_pos (by simpa using c3)]
      rw [if_pos c3] at hJ' hbad
      cases h2 : inR x.gNum (-999999999) 999999999 <;> cases h3 : sEq x.gName (bs []) <;> by_cases h4 : (x.gKids.length : Int) = 0 <;> simp_all
    rw [if_neg (by simpa using c3)]
    rw [if_neg c3] at hJ' hbad
    by_cases c4 : x.gKind = 4
    · rw [if_pos (by simpa using c4)]
      rw [if_pos c4] at hJ' hbad
      cases h2 : decide (nmOk x.gName) <;> by_cases h3 : x.gNum = 0 <;> cases h4 : inR (x.gKids.length : Int) 1 5 <;> simp_all
    · rw [if_neg (by simpa using c4)]
      rw [if_neg c4] at hbad
      rw [hbad rfl]

theorem impl_TermOk {k : Nat} {x : GTerm} (hw : maxLen + 2 * nT x + 2 < k) (hx : x.ok) : pimpl_TermOk k x = some (tOk x) := by
  unfold pimpl_TermOk tOk
  rw [sized k x hw hx 1 (by omega) (by omega)]
  simp only [Option.bind_some]
  unfold cnt
  cases gT 1 x <;> by_cases h : 1 + nT x ≤ 400 <;> simp [h] <;> omega
theorem l34Terms_L1 {k : Nat} {f : GTerm → Option GTerm} {g : List GTerm → Option (List GTerm)} {l : List GTerm} (hl : l.length ≤ 1048576) (hf : ∀ x ∈ l, f x = some x) :
    ∀ (m j : Nat), j ≤ l.length → l.length - j < m → pspec_l34Terms_L1 k f g l m (l.take j) (j : Int) = some (.done l)
  | 0, j, h1, h2 => by omega
  | m + 1, j, h1, h2 => by
    unfold pspec_l34Terms_L1
    have hm : l.length ≤ maxLen := by rw [maxLen_eq]; omega
    by_cases hlt : j < l.length
    · rw [if_pos (by simpa using hlt), at_lt hlt]
      simp only [Option.bind_some, hf _ (List.getElem_mem hlt)]
      rw [if_pos (by simp; omega), wr_succ hlt hm, ← List.take_succ_eq_append_getElem hlt]
      exact l34Terms_L1 hl hf m (j + 1) (by omega) (by omega)
    · rw [if_neg (by simpa using hlt), List.take_of_length_le (by omega)]
theorem l34Both : ∀ k : Nat, (∀ l, maxLen + 2 * nsum nT l + 1 < k → nsum nT l ≤ 16777216 → l.length ≤ 1048576 → (∀ x ∈ l, nT x ≤ 1048576) → pspec_l34Terms k l = some l) ∧ (∀ x, maxLen + 2 * nT x + 2 < k → nT x ≤ 1048576 → pspec_l34Term k x = some x)
  | 0 => ⟨fun l h => by omega, fun x h => by omega⟩
  | k + 1 => by
    obtain ⟨ih1, ih2⟩ := l34Both k
    refine ⟨fun l hw hl h3 h4 => ?_, fun x hw hx => ?_⟩
    · have := nsum_len nT l
      unfold pspec_l34Terms
      have e := l34Terms_L1 (k := k) (f := pspec_l34Term k) (g := pspec_l34Terms k) (l := l) (by omega) (fun x hx => by have := nsum_mem (n := nT) hx; exact ih2 x (by omega) (h4 x hx)) k 0 (by omega) (by omega)
      rw [show ((0 : Nat) : Int) = 0 from rfl, List.take_zero] at e
      rw [e]; rfl
    · have hk := nT_kids x
      have := nsum_len nT x.gKids
      unfold pspec_l34Term
      rw [ih1 x.gKids (by omega) (by omega) (by omega) (fun y hy => by have := nsum_mem (n := nT) hy; omega)]
      cases x; rfl
theorem l34Term {k : Nat} {x : GTerm} (hw : maxLen + 2 * nT x + 2 < k) (hx : nT x ≤ 1048576) : pspec_l34Term k x = some x := (l34Both k).2 x hw hx
theorem l34Terms {k : Nat} {l : List GTerm} (hw : maxLen + 2 * nsum nT l + 2 < k) (hx : nsum nT l ≤ 1048576) : pspec_l34Terms k l = some l := by
  have := nsum_len nT l
  exact (l34Both k).1 l (by omega) (by omega) (by omega) (fun x hx => by have := nsum_mem (n := nT) hx; omega)
theorem renamed_L2 {k : Nat} {f : GTerm → Option GTerm} {x : GTerm} {a c : Int} {b : ByteArray} (hl : x.gKids.length ≤ 1048576) (hf : ∀ y ∈ x.gKids, f y = some y) :
    ∀ (m j : Nat), j ≤ x.gKids.length → x.gKids.length - j < m → pimpl_renamed_on1_pimpl_copyTerm_1_L2 k f x m (j : Int) (.mk a b c (x.gKids.take j)) = some (.done (.mk a b c x.gKids))
  | 0, j, h1, h2 => by omega
  | m + 1, j, h1, h2 => by
    unfold pimpl_renamed_on1_pimpl_copyTerm_1_L2
    have hm : x.gKids.length ≤ maxLen := by rw [maxLen_eq]; omega
    by_cases hlt : j < x.gKids.length
    · rw [if_pos (by simpa using hlt), at_lt hlt]
      simp only [Option.bind_some, hf _ (List.getElem_mem hlt)]
      rw [show (GTerm.mk a b c (x.gKids.take j)).gKids = x.gKids.take j from rfl, show (GTerm.mk a b c (x.gKids.take j)).gKind = a from rfl, show (GTerm.mk a b c (x.gKids.take j)).gName = b from rfl, show (GTerm.mk a b c (x.gKids.take j)).gNum = c from rfl]
      rw [if_pos (by simp; omega), wr_succ hlt hm, ← List.take_succ_eq_append_getElem hlt]
      exact renamed_L2 hl hf m (j + 1) (by omega) (by omega)
    · rw [if_neg (by simpa using hlt), List.take_of_length_le (by omega)]
theorem renamed : ∀ (k : Nat) (x : GTerm), maxLen + 2 * nT x + 2 < k → nT x ≤ 1048576 → pimpl_renamed_on1_pimpl_copyTerm_1 k x = some x
  | 0, x, h => by omega
  | k + 1, x, hw => by
    intro hx
    have hk := nT_kids x
    have := nsum_len nT x.gKids
    have e := renamed_L2 (k := k) (f := pimpl_renamed_on1_pimpl_copyTerm_1 k) (x := x) (a := x.gKind) (b := x.gName) (c := x.gNum) (by omega) (fun y hy => by have := nsum_mem (n := nT) hy; exact renamed k y (by omega) (by omega)) k 0 (by omega) (by omega)
    rw [show ((0 : Nat) : Int) = 0 from rfl, List.take_zero] at e
    have hx : GTerm.mk x.gKind x.gName x.gNum x.gKids = x := by cases x; rfl
    rw [hx] at e
    have e2 : pimpl_renamed_on1_pimpl_copyTerm_1_J1 k (pimpl_renamed_on1_pimpl_copyTerm_1 k) x (GTerm.mk x.gKind x.gName x.gNum []) = some x := by
      unfold pimpl_renamed_on1_pimpl_copyTerm_1_J1; rw [e]; rfl
    unfold pimpl_renamed_on1_pimpl_copyTerm_1
    simp only [pimpl_copyTerm_1, Option.bind_some, e2]
    split <;> rfl
theorem copyTerm {k : Nat} {x : GTerm} (hw : maxLen + 2 * nT x + 2 < k) (hx : nT x ≤ 1048576) : pimpl_copyTerm k x = some x := by
  unfold pimpl_copyTerm; rw [renamed k x hw hx]; rfl
theorem nT_leaf (a : Int) (b : ByteArray) (c : Int) : nT (GTerm.mk a b c []) = 0 := by rw [nT, nTs]
/-- The list of terms, with an end. -/
def mkL (l : List GTerm) (a : GTerm) : GTerm := l.foldr (fun x a => .mk 4 (bs [46]) 0 [x, a]) a
theorem mkL_snoc (l : List GTerm) (x a : GTerm) : mkL (l ++ [x]) a = mkL l (.mk 4 (bs [46]) 0 [x, a]) := by simp [mkL]
theorem mkL_n (a : GTerm) : ∀ l : List GTerm, nT (mkL l a) = nsum nT l + l.length + nT a
  | [] => by simp [mkL, nsum]
  | x :: l => by
    have h := mkL_n a l
    unfold mkL at h ⊢
    simp only [List.foldr_cons, nT, nTs, h, nsum, List.length_cons]
    omega
theorem ok_pair {x y : GTerm} (hx : x.ok) (hy : y.ok) : (GTerm.mk 4 (bs [46]) 0 [x, y]).ok := by
  refine .mk _ _ _ _ (by unfold okI; decide) ?_ (by unfold okI; decide) ?_ ?_
  · unfold okFs; rw [maxLen_eq]; have : (bs [46]).size = 1 := rfl; omega
  · rw [maxLen_eq]; simp
  · intro z hz
    simp only [List.mem_cons, List.not_mem_nil, or_false] at hz
    rcases hz with rfl | rfl
    · exact hx
    · exact hy
theorem ok_nil : (GTerm.mk 2 (bs [91, 93]) 0 []).ok := by
  refine .mk _ _ _ _ (by unfold okI; decide) ?_ (by unfold okI; decide) ?_ ?_
  · unfold okFs; rw [maxLen_eq]; have : (bs [91, 93]).size = 2 := rfl; omega
  · rw [maxLen_eq]; simp
  · intro z hz; cases hz
theorem mkL_ok {a : GTerm} (ha : a.ok) : ∀ {l : List GTerm}, (∀ x ∈ l, x.ok) → (mkL l a).ok
  | [], h => ha
  | x :: l, h => ok_pair (h x (by simp)) (mkL_ok ha (fun y hy => h y (by simp [hy])))
theorem l21Make_L1 {k : Nat} {l : List GTerm} (hl : l.length ≤ 1048576) : ∀ (j m : Nat) (a : GTerm), j ≤ l.length → j < m → pspec_l21Make_L1 k l m ((j : Int) - 1) a = some (.done (mkL (l.take j) a))
  | j, 0, a, h1, h2 => by omega
  | 0, m + 1, a, h1, h2 => by
    unfold pspec_l21Make_L1
    rw [if_neg (by simp)]; rfl
  | j + 1, m + 1, a, h1, h2 => by
    have ei : ((j + 1 : Nat) : Int) - 1 = (j : Int) := by omega
    rw [ei]
    unfold pspec_l21Make_L1
    have hlt : j < l.length := by omega
    rw [if_pos (by simp), at_lt hlt]
    simp only [pspec_l03Two, Option.bind_some]
    rw [wr_i64 (by omega) (by omega), l21Make_L1 hl j m _ (by omega) (by omega), List.take_succ_eq_append_getElem hlt, mkL_snoc]
theorem listOf_L1 {k : Nat} {l : List GTerm} (hl : nsum nT l ≤ 1048576) (hk : maxLen + 2 * nsum nT l + 2 < k) : ∀ (j m : Nat) (a : GTerm), j ≤ l.length → j < m → pimpl_listOf_L1 k l m ((j : Int) - 1) a = some (.done (mkL (l.take j) a))
  | j, 0, a, h1, h2 => by omega
  | 0, m + 1, a, h1, h2 => by
    unfold pimpl_listOf_L1
    rw [if_neg (by simp)]; rfl
  | j + 1, m + 1, a, h1, h2 => by
    have ei : ((j + 1 : Nat) : Int) - 1 = (j : Int) := by omega
    rw [ei]
    unfold pimpl_listOf_L1
    have hlt : j < l.length := by omega
    have hlen := nsum_len nT l
    have hmem := nsum_mem (n := nT) (List.getElem_mem hlt)
    rw [if_pos (by simp), at_lt hlt]
    simp only [Option.bind_some]
    rw [copyTerm (by omega) (by omega)]
    simp only [pimpl_structure, Option.bind_some]
    rw [wr_i64 (by omega) (by omega), listOf_L1 hl hk j m _ (by omega) (by omega), List.take_succ_eq_append_getElem hlt, mkL_snoc]

/-! what is drawn -/
/-- Not by computation: the kernel must not look into the conditions. -/
theorem obs {α β : Type} {a : α} {f : α → Option β} : (some a).bind f = f a := by
  cases h : f a with
  | none => exact h
  | some b => exact h
theorem kk {n k : Nat} (m : Nat) (h : n < k - maxLen) (hm : m ≤ n := by decide) : maxLen + m < k := by
  rw [Nat.add_comm]
  exact Nat.add_lt_of_lt_sub (Nat.lt_of_le_of_lt hm h)
theorem kz {n k : Nat} (h : n < k - maxLen) : maxLen < k := by
  have := kk 0 h (Nat.zero_le _)
  exact this
theorem kle {n k : Nat} (m : Nat) (h : n < k - maxLen) (hm : m ≤ n := by decide) : m < k - maxLen := Nat.lt_of_le_of_lt hm h
theorem band255 (x : Int) : 0 ≤ band .i64 x 255 ∧ band .i64 x 255 ≤ 255 := by
  have h : ∀ b : BitVec 64, (b &&& BitVec.ofInt 64 255).toNat ≤ 255 := by
    intro b
    rw [BitVec.toNat_and]
    exact Nat.and_le_right
  have e : band .i64 x 255 = IntKind.wrap .i64 ((BitVec.ofInt 64 x &&& BitVec.ofInt 64 255).toNat) := rfl
  have h1 := h (BitVec.ofInt 64 x)
  generalize (BitVec.ofInt 64 x &&& BitVec.ofInt 64 255).toNat = n at e h1
  have e2 : wr.i64 (n : Int) = n := wr_i64 (by omega) (by omega)
  rw [e, show IntKind.wrap .i64 (n : Int) = wr.i64 (n : Int) from rfl, e2]
  omega

theorem at_int {α : Type} {l : List α} {v : Int} (h1 : 0 ≤ v) (h2 : v < (l.length : Int)) : ∃ (h : v.toNat < l.length), at' l v = some l[v.toNat] := by
  obtain ⟨n, rfl⟩ := Int.eq_ofNat_of_zero_le h1
  exact ⟨by omega, at_lt (by omega)⟩
/-- A cursor is right. -/
def CurOk (c : GL01Cur) : Prop := c.gB.length ≤ 1048576 ∧ 0 ≤ c.gI ∧ c.gI ≤ (c.gB.length : Int)

theorem l01New_L1 (k : Nat) (a : List Int) (hl : a.length ≤ 1048576) : ∀ (m j : Nat) (h : Int), j ≤ a.length → a.length - j < m → ∃ r, pspec_l01New_L1 k a m h (j : Int) = some (.done r)
  | 0, j, h, h1, h2 => by omega
  | m + 1, j, h, h1, h2 => by
    rw [pspec_l01New_L1]
    have hM := maxLen_eq
    by_cases c : j < a.length
    · rw [if_pos (by simpa using c)]
      split
      · rw [at_lt c, wr_succ c (by omega)]
        exact l01New_L1 k a hl m (j + 1) _ (by omega) (by omega)
      · exact ⟨_, rfl⟩
    · rw [if_neg (by simpa using c)]
      exact ⟨_, rfl⟩
theorem l01New {k : Nat} {a : List Int} (hl : a.length ≤ 1048576) (hk : maxLen < k) : ∃ c, pspec_l01New k a = some c ∧ CurOk c := by
  unfold pspec_l01New
  have hM := maxLen_eq
  obtain ⟨r, e⟩ := l01New_L1 k a hl k 0 (wr.i64 (95101 + (a.length : Int))) (by omega) (by omega)
  rw [show ((0 : Nat) : Int) = 0 from rfl] at e
  rw [e]
  exact ⟨_, rfl, hl, by simp, by simp⟩
theorem l01Byte {c : GL01Cur} (h : CurOk c) (k : Nat) : ∃ c' v, pspec_l01Byte k c = some (c', v) ∧ CurOk c' ∧ 0 ≤ v ∧ v ≤ 255 := by
  unfold pspec_l01Byte
  obtain ⟨h1, h2, h3⟩ := h
  by_cases g : c.gI < (c.gB.length : Int)
  · rw [if_pos (by simpa using g)]
    obtain ⟨hn, e⟩ := at_int h2 g
    rw [e]
    refine ⟨_, _, rfl, ⟨h1, ?_, ?_⟩, (band255 _).1, (band255 _).2⟩
    · simp only; rw [wr_i64 (by omega) (by omega)]; omega
    · simp only; rw [wr_i64 (by omega) (by omega)]; omega
  · rw [if_neg (by simpa using g)]
    exact ⟨_, _, rfl, ⟨h1, h2, h3⟩, (band255 _).1, (band255 _).2⟩
theorem l01Below {c : GL01Cur} (h : CurOk c) (k : Nat) (n : Int) : ∃ c' v, pspec_l01Below k c n = some (c', v) ∧ CurOk c' ∧ 0 ≤ v ∧ (0 < n → v < n) ∧ (n ≤ 0 → v = 0) := by
  unfold pspec_l01Below
  by_cases g : n ≤ 0
  · rw [if_pos (by simpa using g)]
    exact ⟨_, _, rfl, h, by omega, by omega, fun _ => rfl⟩
  rw [if_neg (by simpa using g)]
  split
  · obtain ⟨c', v, e, h1, h2, h3⟩ := l01Byte h k
    rw [e]
    simp only [Option.bind_some]
    rw [if_pos (by omega)]
    exact ⟨_, _, rfl, h1, Int.tmod_nonneg _ h2, fun _ => Int.tmod_lt_of_pos _ (by omega), by omega⟩
  · obtain ⟨c1, v1, e1, h1, l1, u1⟩ := l01Byte h k
    obtain ⟨c2, v2, e2, h2, l2, u2⟩ := l01Byte h1 k
    obtain ⟨c3, v3, e3, h3, l3, u3⟩ := l01Byte h2 k
    obtain ⟨c4, v4, e4, h4, l4, u4⟩ := l01Byte h3 k
    simp only [e1, e2, e3, e4, Option.bind_some]
    rw [if_pos (by omega)]
    have w1 : wr.i64 (v1 * 16777216) = v1 * 16777216 := wr_i64 (by omega) (by omega)
    have w2 : wr.i64 (v2 * 65536) = v2 * 65536 := wr_i64 (by omega) (by omega)
    have w3 : wr.i64 (v3 * 256) = v3 * 256 := wr_i64 (by omega) (by omega)
    rw [w1, w2, w3, wr_i64 (x := v1 * 16777216 + v2 * 65536) (by omega) (by omega), wr_i64 (x := v1 * 16777216 + v2 * 65536 + v3 * 256) (by omega) (by omega), wr_i64 (by omega) (by omega)]
    exact ⟨_, _, rfl, h4, Int.tmod_nonneg _ (by omega), fun _ => Int.tmod_lt_of_pos _ (by omega), by omega⟩
theorem at_mem {α : Type} {l : List α} {v : Int} (h1 : 0 ≤ v) (h2 : v < (l.length : Int)) : ∃ x, at' l v = some x ∧ x ∈ l := by
  obtain ⟨hn, e⟩ := at_int h1 h2
  exact ⟨_, e, List.getElem_mem hn⟩
theorem l01Pick {c : GL01Cur} (h : CurOk c) (k : Nat) {l : List ByteArray} (hl : 0 < l.length) : ∃ c' s, pspec_l01Pick k c l = some (c', s) ∧ CurOk c' ∧ s ∈ l := by
  unfold pspec_l01Pick
  obtain ⟨c', v, e, h1, h2, h3, h4⟩ := l01Below h k (l.length : Int)
  obtain ⟨s, e2, h5⟩ := at_mem h2 (h3 (by omega))
  simp only [e, e2, Option.bind_some]
  exact ⟨_, _, rfl, h1, h5⟩
theorem l01PickInt {c : GL01Cur} (h : CurOk c) (k : Nat) {l : List Int} (hl : 0 < l.length) : ∃ c' s, pspec_l01PickInt k c l = some (c', s) ∧ CurOk c' ∧ s ∈ l := by
  unfold pspec_l01PickInt
  obtain ⟨c', v, e, h1, h2, h3, h4⟩ := l01Below h k (l.length : Int)
  obtain ⟨s, e2, h5⟩ := at_mem h2 (h3 (by omega))
  simp only [e, e2, Option.bind_some]
  exact ⟨_, _, rfl, h1, h5⟩
theorem l01Once {c : GL01Cur} (h : CurOk c) (k : Nat) (n : Int) : ∃ c' b, pspec_l01Once k c n = some (c', b) ∧ CurOk c' := by
  unfold pspec_l01Once
  obtain ⟨c', v, e, h1, h2, h3, h4⟩ := l01Below h k n
  simp only [e, Option.bind_some]
  exact ⟨_, _, rfl, h1⟩
theorem ok_mk {a : Int} {b : ByteArray} {c : Int} {l : List GTerm} (h1 : -9223372036854775808 ≤ a ∧ a ≤ 9223372036854775807) (h2 : b.size ≤ 9223372036854775807) (h3 : -9223372036854775808 ≤ c ∧ c ≤ 9223372036854775807) (h4 : l.length ≤ 9223372036854775807) (h5 : ∀ x ∈ l, x.ok) : (GTerm.mk a b c l).ok := by
  have e1 : IntKind.i64.min = -9223372036854775808 := rfl
  have e2 : IntKind.i64.max = 9223372036854775807 := rfl
  have hM := maxLen_eq
  exact .mk _ _ _ _ (by unfold okI; omega) (by unfold okFs; omega) (by unfold okI; omega) (by omega) h5
/-- The head of a right term. -/
theorem one_ok {x : GTerm} (h : one x = true) : (1 ≤ x.gKind ∧ x.gKind ≤ 4) ∧ x.gName.size ≤ 20 ∧ (-999999999 ≤ x.gNum ∧ x.gNum ≤ 999999999) ∧ x.gKids.length ≤ 5 := by
  have hin : ∀ {x a b : Int}, inR x a b = true → a ≤ x ∧ x ≤ b := fun h => of_decide_eq_true h
  have hz : ∀ {s : ByteArray}, sEq s (bs []) = true → s.size ≤ 20 := fun h => by rw [sEq_iff.1 h]; decide
  unfold one at h
  split at h
  · simp only [Bool.and_eq_true, beq_iff_eq] at h
    have := hin h.1; have := hz h.2.1; omega
  split at h
  · simp only [Bool.and_eq_true, beq_iff_eq, decide_eq_true_eq] at h
    have := h.1.2.2; omega
  split at h
  · simp only [Bool.and_eq_true, beq_iff_eq] at h
    have := hin h.1; have := hz h.2.1; omega
  split at h
  · simp only [Bool.and_eq_true, beq_iff_eq, decide_eq_true_eq] at h
    have := h.1.2.2; have := hin h.2.2; omega
  · cases h
mutual
theorem gT_ok : ∀ (x : GTerm) (d : Int), gT d x = true → x.ok
  | .mk a b c l, d, h => by
    rw [gT_eq] at h
    simp only [Bool.and_eq_true] at h
    have := one_ok h.2.1
    simp only [mk_gKind, mk_gName, mk_gNum, mk_gKids] at this
    exact ok_mk (by omega) (by omega) (by omega) (by omega) (gTs_ok l (d + 1) h.2.2)
theorem gTs_ok : ∀ (l : List GTerm) (d : Int), gTs d l = true → ∀ x ∈ l, x.ok
  | [], d, h => fun x hx => by cases hx
  | x :: l, d, h => fun y hy => by
    rw [gTs, Bool.and_eq_true] at h
    cases hy with
    | head => exact gT_ok x d h.1
    | tail _ hy => exact gTs_ok l d h.2 y hy
end
theorem tOk_ok {x : GTerm} (h : tOk x = true) : x.ok ∧ nT x ≤ 399 := by
  unfold tOk at h
  simp only [Bool.and_eq_true, decide_eq_true_eq] at h
  exact ⟨gT_ok x 1 h.2, by omega⟩
theorem gTs_all {d : Int} : ∀ {l : List GTerm}, (∀ y ∈ l, gT d y = true) → gTs d l = true
  | [], _ => by rw [gTs]
  | x :: l, h => by rw [gTs, h x (List.mem_cons_self ..), gTs_all (fun y hy => h y (List.mem_cons_of_mem _ hy))]; rfl

theorem one_var {n : Int} (h : 0 ≤ n ∧ n ≤ 99999) : one (.mk 1 (bs []) n []) = true := by
  unfold one
  rw [mk_gKind, mk_gName, mk_gNum, mk_gKids, if_pos rfl, inR_t h, sEq_refl]; rfl
theorem one_atom {s : ByteArray} (h : nmOk s) : one (.mk 2 s 0 []) = true := by
  unfold one
  rw [mk_gKind, mk_gName, mk_gNum, mk_gKids, if_neg (by decide), if_pos rfl, decide_eq_true h]; rfl
theorem one_int {n : Int} (h : -999999999 ≤ n ∧ n ≤ 999999999) : one (.mk 3 (bs []) n []) = true := by
  unfold one
  rw [mk_gKind, mk_gName, mk_gNum, mk_gKids, if_neg (by decide), if_neg (by decide), if_pos rfl, inR_t h, sEq_refl]; rfl
theorem one_struct {s : ByteArray} {l : List GTerm} (h : nmOk s) (h1 : 1 ≤ l.length) (h2 : l.length ≤ 5) : one (.mk 4 s 0 l) = true := by
  unfold one
  rw [mk_gKind, mk_gName, mk_gNum, mk_gKids, if_neg (by decide), if_neg (by decide), if_neg (by decide), if_pos rfl, decide_eq_true h, inR_t (by omega)]; rfl
/-- A term that was made, so high at most. -/
def MadeT (d : Nat) (x : GTerm) : Prop := (∀ e : Int, e + (d : Int) ≤ 40 → gT e x = true) ∧ nT x + 1 ≤ 4 ^ d
theorem MadeT.leaf {x : GTerm} (d : Nat) (h1 : one x = true) (h2 : x.gKids = []) : MadeT d x := by
  refine ⟨fun e he => ?_, ?_⟩
  · rw [gT_eq, h1, h2, gTs, decide_eq_true (by omega)]; rfl
  · rw [nT_kids, h2]; exact Nat.one_le_pow _ _ (by omega)
theorem MadeT.node {d : Nat} {b : ByteArray} {l : List GTerm} (h1 : nmOk b) (h2 : 1 ≤ l.length) (h3 : l.length ≤ 3) (h4 : ∀ y ∈ l, MadeT d y) : MadeT (d + 1) (.mk 4 b 0 l) := by
  refine ⟨fun e he => ?_, ?_⟩
  · rw [gT_eq, mk_gKids, gTs_all (fun y hy => (h4 y hy).1 (e + 1) (by omega)), decide_eq_true (by omega), one_struct h1 h2 (by omega)]
    rfl
  · rw [nT_kids, mk_gKids]
    have : ∀ m : List GTerm, (∀ y ∈ m, MadeT d y) → nsum nT m ≤ m.length * 4 ^ d := by
      intro m
      induction m with
      | nil => intro _; exact Nat.zero_le _
      | cons x m ih =>
        intro hm
        have a := (hm x (List.mem_cons_self ..)).2
        have b := ih (fun y hy => hm y (List.mem_cons_of_mem _ hy))
        rw [nsum, List.length_cons, Nat.succ_mul]
        omega
    have a := this l h4
    have b : l.length * 4 ^ d ≤ 3 * 4 ^ d := Nat.mul_le_mul_right _ h3
    have c : 1 ≤ 4 ^ d := Nat.one_le_pow _ _ (by omega)
    rw [Nat.pow_succ]
    omega
theorem MadeT.up {d : Nat} {x : GTerm} (h : MadeT d x) (e : Nat) (he : d ≤ e) : MadeT e x :=
  ⟨fun f hf => h.1 f (by omega), Nat.le_trans h.2 (Nat.pow_le_pow_right (by omega) he)⟩
theorem MadeT.right {x : GTerm} (h : MadeT 3 x) : tOk x = true := by
  have := h.2
  unfold tOk
  rw [h.1 1 (by omega), decide_eq_true (by omega)]
  rfl
theorem names_ok {s : ByteArray} (h : s ∈ [(bs [97]), (bs [98]), (bs [91, 93]), (bs [43]), (bs [66, 105, 103]), bs [120], (bs [58, 45]), (bs [61, 46, 46]), (bs [61]), (bs [44]), (bs [102]), (bs [59]), (bs [103]), (bs [45]), bs [46], bs [115]]) : nmOk s := by
  have : ∀ s ∈ [(bs [97]), (bs [98]), (bs [91, 93]), (bs [43]), (bs [66, 105, 103]), bs [120], (bs [58, 45]), (bs [61, 46, 46]), (bs [61]), (bs [44]), (bs [102]), (bs [59]), (bs [103]), (bs [45]), bs [46], bs [115]], nmOk s := by decide +kernel
  exact this s h
theorem atom_made {s : ByteArray} (h : nmOk s) (d : Nat) : MadeT d (.mk 2 s 0 []) :=
  MadeT.leaf d (one_atom h) rfl

theorem l03Made_L2 {k d : Nat} {F : GL01Cur → Int → Option (GL01Cur × GTerm)} (hd : wr.i64 (((d + 1 : Nat) : Int) - 1) = (d : Int))
    (hF : ∀ c, CurOk c → ∃ c' t, F c (d : Int) = some (c', t) ∧ CurOk c' ∧ MadeT d t) {s : ByteArray} :
    ∀ (m j : Nat) (l : List GTerm) (c : GL01Cur), 4 - j < m → j ≤ 3 → CurOk c → l.length = j → (∀ y ∈ l, MadeT d y) →
      ∃ t c', pspec_l03Made_L2 k F ((d + 1 : Nat) : Int) m (j : Int) (.mk 4 s 0 l) c = some (.done (t, c')) ∧ CurOk c' ∧ ∃ l', t = .mk 4 s 0 l' ∧ l'.length ≤ 3 ∧ (1 ≤ j ∨ 1 ≤ l'.length) ∧ j ≤ l'.length ∧ ∀ y ∈ l', MadeT d y
  | 0, j, l, c, h1, h2, h3, h4, h5 => by omega
  | m + 1, j, l, c, h1, h2, h3, h4, h5 => by
    rw [pspec_l03Made_L2]
    obtain ⟨c', v, e, g1, g2, g3, _⟩ := l01Below h3 k 3
    have g3 := g3 (by decide)
    simp only [e, Option.bind_some]
    rw [wr_i64 (x := 1 + v) (by omega) (by omega)]
    by_cases q : (j : Int) < 1 + v
    · rw [if_pos (by simpa using q), mk_gKids, if_pos (by rw [decide_eq_true_eq]; omega), hd]
      obtain ⟨c2, t, e2, g4, g5⟩ := hF c' g1
      simp only [e2, Option.bind_some, mk_gKind, mk_gName, mk_gNum]
      rw [if_pos (by simp; omega), wr_i64 (by omega) (by omega), show ((j : Int) + 1) = ((j + 1 : Nat) : Int) by omega]
      obtain ⟨t', c3, e3, g6, l', rfl, g7, g8, g9, g10⟩ := l03Made_L2 (k := k) hd hF (s := s) m (j + 1) (l ++ [t]) c2 (by omega) (by omega) g4 (by simp; omega) (by
        intro y hy
        rcases List.mem_append.1 hy with hy | hy
        · exact h5 y hy
        · rw [List.mem_singleton.1 hy]; exact g5)
      exact ⟨_, c3, e3, g6, l', rfl, g7, .inr (by omega), by omega, g10⟩
    · rw [if_neg (by simpa using q)]
      exact ⟨_, _, rfl, g1, l, rfl, by omega, .inl (by omega), by omega, h5⟩

theorem l03Made : ∀ (d k : Nat), d ≤ 3 → d + 8 ≤ k → ∀ c, CurOk c → ∃ c' t, pspec_l03Made k c (d : Int) = some (c', t) ∧ CurOk c' ∧ MadeT d t
  | _, 0, _, h2, _, _ => by omega
  | d, k + 1, h1, h2, c, h => by
    rw [pspec_l03Made]
    obtain ⟨c1, v, e, g1, g2, g3, _⟩ := l01Below h k 10
    have g3 := g3 (by decide)
    simp only [e, Option.bind_some]
    have leaf : ∀ u : Int, 0 ≤ u → u < 6 → ∃ c' t, pspec_l03Made_J1 k (pspec_l03Made k) (c1, v) (d : Int) u = some (c', t) ∧ CurOk c' ∧ MadeT d t := by
      intro u u1 u2
      unfold pspec_l03Made_J1
      split
      · obtain ⟨c2, w, e2, g4, g5, g6, _⟩ := l01Below g1 k 4
        have g6 := g6 (by decide)
        simp only [e2, Option.bind_some, pspec_l03Var]
        refine ⟨_, _, rfl, g4, MadeT.leaf d (one_var (by omega)) rfl⟩
      split
      · rw [if_pos (by decide)]
        obtain ⟨c2, s, e2, g4, g5⟩ := l01Pick g1 k (l := [(bs [97]), (bs [98]), (bs [91, 93]), (bs [43]), (bs [66, 105, 103]), (bs [120, 32, 121]).extract ((0 : Int) : Int).toNat (1 : Int).toNat, (bs [58, 45]), (bs [61, 46, 46])]) (by decide)
        simp only [e2, Option.bind_some, pspec_l03Atom]
        refine ⟨_, _, rfl, g4, atom_made (names_ok ?_) d⟩
        have hx : (bs [120, 32, 121]).extract ((0 : Int) : Int).toNat (1 : Int).toNat = bs [120] := by decide
        rw [hx] at g5
        simp only [List.mem_cons, List.not_mem_nil, or_false] at g5 ⊢
        rcases g5 with h | h | h | h | h | h | h | h <;> simp [h]
      · rw [if_pos (by rw [decide_eq_true_eq]; exact u2)]
        obtain ⟨c2, s, e2, g4, g5⟩ := l01PickInt g1 k (l := [0, 1, -7, 999999999]) (by decide)
        simp only [e2, Option.bind_some, pspec_l03Num]
        refine ⟨_, _, rfl, g4, MadeT.leaf d (one_int (by
          simp only [List.mem_cons, List.not_mem_nil, or_false] at g5
          omega)) rfl⟩
    cases d with
    | zero =>
      rw [if_pos (by decide), if_pos (by decide)]
      have := Int.tmod_nonneg 6 g2
      have := Int.tmod_lt_of_pos v (b := 6) (by decide)
      exact leaf _ (by omega) (by omega)
    | succ d =>
      rw [if_neg (by rw [decide_eq_true_eq]; omega)]
      have hd : wr.i64 (((d + 1 : Nat) : Int) - 1) = (d : Int) := by rw [wr_i64 (by omega) (by omega)]; omega
      have hF := l03Made d k (by omega) (by omega)
      by_cases u : v < 6
      · exact leaf v g2 u
      unfold pspec_l03Made_J1
      rw [if_neg (by rw [decide_eq_true_eq]; omega), if_neg (by rw [decide_eq_true_eq]; omega), if_neg (by rw [decide_eq_true_eq]; omega)]
      have two : ∀ (s : ByteArray) (x y : GTerm), nmOk s → MadeT d x → MadeT d y → MadeT (d + 1) (.mk 4 s 0 [x, y]) := fun s x y h1 h2 h3 =>
        MadeT.node h1 (by simp) (by simp) (by
          intro z hz
          simp only [List.mem_cons, List.not_mem_nil, or_false] at hz
          rcases hz with rfl | rfl
          · exact h2
          · exact h3)
      split
      · rw [hd]
        obtain ⟨c2, x, e2, g4, g5⟩ := hF c1 g1
        obtain ⟨c3, y, e3, g6, g7⟩ := hF c2 g4
        simp only [e2, e3, Option.bind_some, pspec_l03Two]
        exact ⟨_, _, rfl, g6, two _ _ _ (names_ok (by simp)) g5 g7⟩
      split
      · obtain ⟨c1', s, e1, g1', gs⟩ := l01Pick g1 k (l := [(bs [43]), (bs [61]), (bs [44]), (bs [102]), (bs [59])]) (by decide)
        rw [hd]
        obtain ⟨c2, x, e2, g4, g5⟩ := hF c1' g1'
        obtain ⟨c3, y, e3, g6, g7⟩ := hF c2 g4
        simp only [e1, e2, e3, Option.bind_some, pspec_l03Two]
        refine ⟨_, _, rfl, g6, two _ _ _ (names_ok ?_) g5 g7⟩
        simp only [List.mem_cons, List.not_mem_nil, or_false] at gs ⊢
        rcases gs with h | h | h | h | h <;> simp [h]
      · obtain ⟨c1', s, e1, g1', gs⟩ := l01Pick g1 k (l := [(bs [102]), (bs [103]), (bs [45]), (bs [91, 93])]) (by decide)
        simp only [e1, Option.bind_some]
        obtain ⟨t, c', e2, g4, l', rfl, g5, g6, g7, g8⟩ := l03Made_L2 (k := k) hd hF (s := s) k 0 [] c1' (by omega) (by omega) g1' rfl (fun y hy => by cases hy)
        rw [show ((0 : Nat) : Int) = 0 from rfl] at e2
        rw [e2]
        refine ⟨_, _, rfl, g4, MadeT.node (names_ok ?_) (by omega) g5 g8⟩
        simp only [List.mem_cons, List.not_mem_nil, or_false] at gs ⊢
        rcases gs with h | h | h | h <;> simp [h]
theorem l03Term {c : GL01Cur} (h : CurOk c) {k : Nat} (hk : 1000000 < k - maxLen) : ∃ c' t, pspec_l03Term k c = some (c', t) ∧ CurOk c' ∧ MadeT 3 t := by
  unfold pspec_l03Term
  obtain ⟨c', t, e, h1, h2⟩ := l03Made 3 k (by omega) (by omega) c h
  have h3 := h2.2
  rw [show ((3 : Nat) : Int) = 3 from rfl] at e
  simp only [e, Option.bind_some]
  rw [spec_TermOk (by omega) (gT_ok t 1 (h2.1 1 (by omega))), h2.right]
  exact ⟨_, _, rfl, h1, h2⟩
theorem sameTerm : ∀ (k : Nat) (x : GTerm), maxLen + 2 * nT x + 2 < k → nT x ≤ Huge → pspec_SameTerm k x x = some true
  | 0, x, hw, h => by omega
  | k + 1, x, hw, h => by
    have hk := nT_kids x
    have := nsum_len nT x.gKids
    unfold pspec_SameTerm
    have e := eq2 (f := pspec_SameTerm k) (L := pspec_SameTerm_L1 k (pspec_SameTerm k) x x) (l := x.gKids) (by omega) (fun y hy => by have := nsum_mem (n := nT) hy; exact sameTerm k y (by omega) (by omega)) (fun m i => rfl) (k := k) (by omega)
    rw [if_neg (by simp), if_neg (by simp [sEq_refl]), if_neg (by simp)]
    exact e
/-! lists that were drawn -/
/-- Right terms, so high at most. -/
def Dp (d : Nat) (x : GTerm) : Prop := ∀ e : Int, e + (d : Int) ≤ 40 → gT e x = true
theorem mkL_dp {d : Nat} {a : GTerm} (ha : Dp d a) : ∀ {l : List GTerm}, (∀ y ∈ l, Dp d y) → Dp (d + l.length) (mkL l a)
  | [], h => by simpa [mkL] using ha
  | x :: l, h => by
    intro e he
    have ih := mkL_dp ha (l := l) (fun y hy => h y (List.mem_cons_of_mem _ hy))
    have hx := h x (List.mem_cons_self ..)
    have e1 : mkL (x :: l) a = .mk 4 (bs [46]) 0 [x, mkL l a] := rfl
    rw [List.length_cons] at he
    rw [e1, gT_eq, mk_gKids, one_struct (names_ok (by simp)) (by simp) (by simp), gTs, gTs, gTs, hx (e + 1) (by omega), ih (e + 1) (by omega), decide_eq_true (by omega)]
    rfl
def NIL : GTerm := .mk 2 (bs [91, 93]) 0 []
theorem nil_dp (d : Nat) : Dp d NIL := (atom_made (s := bs [91, 93]) (names_ok (by simp)) d).1
theorem nT_nil : nT NIL = 0 := by unfold NIL; rw [nT, nTs]
/-- A list of right terms that was drawn. -/
def LI (l : List GTerm) : Prop := l.length ≤ 10 ∧ (∀ y ∈ l, MadeT 3 y)
theorem LI.ok {l : List GTerm} (h : LI l) : ∀ x ∈ l, x.ok := fun x hx => gT_ok x 1 ((h.2 x hx).1 1 (by omega))
theorem LI.sum {l : List GTerm} (h : LI l) : nsum nT l ≤ 64 * l.length := by
  have := h.2
  clear h
  induction l with
  | nil => simp [nsum]
  | cons x l ih =>
    have a := (this x (List.mem_cons_self ..)).2
    have b := ih (fun y hy => this y (List.mem_cons_of_mem _ hy))
    rw [nsum, List.length_cons]; omega
theorem LI.dp {l : List GTerm} (h : LI l) : Dp 13 (mkL l NIL) := by
  have := mkL_dp (nil_dp 3) (l := l) (fun y hy => (h.2 y hy).1)
  intro e he
  exact this e (by have := h.1; omega)
theorem LI.okL {l : List GTerm} (h : LI l) : (mkL l NIL).ok := gT_ok _ 1 (h.dp 1 (by omega))
theorem LI.n {l : List GTerm} (h : LI l) : nT (mkL l NIL) = nsum nT l + l.length := by rw [mkL_n, nT_nil]; rfl
theorem LI.tOk {l : List GTerm} (h : LI l) (hn : nsum nT l + l.length ≤ 399) : tOk (mkL l NIL) = true := by
  unfold FnLists.tOk
  rw [h.dp 1 (by omega), h.n, decide_eq_true (by omega)]; rfl

theorem isPair_mk {k : Nat} {x y : GTerm} : pimpl_isPair k (.mk 4 (bs [46]) 0 [x, y]) = some true := by
  unfold pimpl_isPair pimpl_isStruct
  rw [mk_gKind, mk_gName, mk_gKids, if_pos (by decide), if_pos (sEq_refl _)]; rfl
theorem isPair_nil {k : Nat} : pimpl_isPair k NIL = some false := by
  unfold pimpl_isPair pimpl_isStruct NIL
  rw [mk_gKind, if_neg (by decide)]; rfl
theorem itemsOf_L1 {k : Nat} (hk : 1000000 < k - maxLen) : ∀ (l : List GTerm) (m : Nat) (c : List GTerm), l.length < m → c.length + l.length ≤ 1000 → (∀ y ∈ l, nT y ≤ 64) →
    pimpl_ItemsOf_L1 k m c (mkL l NIL) = some (.done (c ++ l, NIL))
  | l, 0, c, h1, h2, h3 => by omega
  | [], m + 1, c, h1, h2, h3 => by
    rw [pimpl_ItemsOf_L1]
    show (pimpl_isPair k NIL).bind _ = _
    rw [isPair_nil, obs, if_neg (by decide), List.append_nil]
    rfl
  | x :: l, m + 1, c, h1, h2, h3 => by
    rw [pimpl_ItemsOf_L1]
    have e1 : mkL (x :: l) NIL = .mk 4 (bs [46]) 0 [x, mkL l NIL] := rfl
    have hx := h3 x (List.mem_cons_self ..)
    rw [e1, isPair_mk, obs, if_pos rfl, mk_gKids, show at' [x, mkL l NIL] 0 = some x from rfl, obs, copyTerm (by omega) (by omega), obs, if_pos (by simp at h2 ⊢; omega), show at' [x, mkL l NIL] 1 = some (mkL l NIL) from rfl, obs,
      itemsOf_L1 hk l m (c ++ [x]) (by simp at h1; omega) (by simp at h2 ⊢; omega) (fun y hy => h3 y (List.mem_cons_of_mem _ hy))]
    simp
theorem isAtom_nil {k : Nat} : pimpl_isAtom k NIL (bs [91, 93]) = some true := by
  unfold pimpl_isAtom NIL
  rw [mk_gKind, mk_gName, if_pos (by decide), sEq_refl]
theorem itemsOf {k : Nat} (hk : 1000000 < k - maxLen) {l : List GTerm} (h : LI l) (hn : nsum nT l + l.length ≤ 399) : pimpl_ItemsOf k (mkL l NIL) = some (l, true) := by
  unfold pimpl_ItemsOf
  have h1 := h.1
  have hnn := h.n
  rw [impl_TermOk (by omega) h.okL, h.tOk hn, obs, if_neg (by decide), itemsOf_L1 hk l k [] (by omega) (by simp; omega) (fun y hy => by have := (h.2 y hy).2; omega), obs]
  simp only
  rw [isAtom_nil, obs, if_neg (by decide), List.nil_append]
theorem listOfE {k : Nat} (hk : 1000000 < k - maxLen) {l : List GTerm} (h : LI l) (a : GTerm) : pimpl_listOf k l a = some (mkL l a) := by
  have hM := maxLen_eq
  have h1 := h.1
  have h2 := h.sum
  unfold pimpl_listOf
  rw [wr_i64 (by omega) (by omega), listOf_L1 (by omega) (by omega) l.length k a (Nat.le_refl _) (by omega), List.take_length]
  rfl
theorem LI.rev {l : List GTerm} (h : LI l) : LI l.reverse := ⟨by rw [List.length_reverse]; exact h.1, fun y hy => h.2 y (List.mem_reverse.1 hy)⟩
theorem nsum_rev (l : List GTerm) : nsum nT l.reverse = nsum nT l := by
  induction l with
  | nil => rfl
  | cons x l ih => rw [List.reverse_cons, nsum_append, ih, nsum, nsum, nsum]; omega
theorem reverse5' (q : Nat) : ∀ l : List GTerm, l.length ≤ 5 → pslices_Reverse___impl_Term_impl_Term_ (q + 20) l = some l.reverse
  | [], _ => by kernel_rfl
  | [a], _ => by kernel_rfl
  | [a, b], _ => by kernel_rfl
  | [a, b, c], _ => by kernel_rfl
  | [a, b, c, d], _ => by kernel_rfl
  | [a, b, c, d, e], _ => by kernel_rfl
  | a :: b :: c :: d :: e :: f :: l, h => by simp at h
theorem reverse5 {k : Nat} (hk : 20 ≤ k) {l : List GTerm} (h : l.length ≤ 5) : pslices_Reverse___impl_Term_impl_Term_ k l = some l.reverse := by
  have := reverse5' (k - 20) l h
  rwa [Nat.sub_add_cancel hk] at this
theorem dItems : @pimpl_ItemsOf_d = @pimpl_ItemsOf := by kernel_rfl
theorem backward {k : Nat} (hk : 1000000 < k - maxLen) {l : List GTerm} (h : LI l) (h5 : l.length ≤ 5) : pimpl_Backward k (mkL l NIL) = some (mkL l.reverse NIL, true) := by
  have hs := h.sum
  have hr := nsum_rev l
  have hl : l.reverse.length = l.length := List.length_reverse
  unfold pimpl_Backward
  rw [dItems, itemsOf hk h (by omega), obs, if_neg (by simp), reverse5 (by omega) h5, obs, pimpl_atom, obs]
  have e := listOfE hk h.rev NIL
  have hn := h.rev.n
  rw [show (GTerm.mk 2 (bs [91, 93]) 0 []) = NIL from rfl, e, obs, impl_TermOk (by omega) h.rev.okL, h.rev.tOk (by omega), obs, if_neg (by decide)]

theorem implSame : ∀ (k : Nat) (x y : GTerm), maxLen + 2 * nT x + 2 < k → nT x ≤ 1048576 → ∃ b, pimpl_SameTerm k x y = some b ∧ (x = y → b = true)
  | 0, x, y, h, _ => by omega
  | k + 1, x, y, h, h2 => by
    have hM := maxLen_eq
    have hk := nT_kids x
    have hl := nsum_len nT x.gKids
    unfold pimpl_SameTerm
    by_cases c1 : x.gKind = y.gKind
    · rw [if_pos (by simpa using c1)]
      cases c2 : sEq x.gName y.gName with
      | true =>
        rw [if_pos rfl]
        by_cases c3 : x.gNum = y.gNum
        · rw [if_pos (by simpa using c3)]
          unfold pslices_EqualFunc___impl_Term___impl_Term_impl_Term_impl_Term__on2_pimpl_SameTerm
          by_cases c4 : x.gKids.length = y.gKids.length
          · rw [if_neg (by rw [c4]; simp)]
            have L : ∀ (m j : Nat), j ≤ x.gKids.length → x.gKids.length - j < m → ∃ o, pslices_EqualFunc___impl_Term___impl_Term_impl_Term_impl_Term__on2_pimpl_SameTerm_L1 k (pimpl_SameTerm k) x.gKids y.gKids m (j : Int) = some o ∧ (x.gKids = y.gKids → o = .done ()) := by
              intro m
              induction m with
              | zero => intro j h1 h2; omega
              | succ m ih =>
                intro j h1 h2
                rw [pslices_EqualFunc___impl_Term___impl_Term_impl_Term_impl_Term__on2_pimpl_SameTerm_L1]
                by_cases c : j < x.gKids.length
                · rw [if_pos (by simpa using c), at_lt c, obs, at_lt (by omega : j < y.gKids.length), obs]
                  have hm := nsum_mem (n := nT) (List.getElem_mem c)
                  obtain ⟨b, e, hb⟩ := implSame k x.gKids[j] (y.gKids[j]'(by omega)) (by omega) (by omega)
                  rw [e, obs]
                  cases b with
                  | true =>
                    rw [if_neg (by decide), wr_succ c (by omega)]
                    exact ih (j + 1) (by omega) (by omega)
                  | false =>
                    rw [if_pos (by decide)]
                    refine ⟨_, rfl, fun he => ?_⟩
                    have := hb (by simp only [he])
                    cases this
                · rw [if_neg (by simpa using c)]
                  exact ⟨_, rfl, fun _ => rfl⟩
            obtain ⟨o, e, ho⟩ := L k 0 (by omega) (by omega)
            rw [show ((0 : Nat) : Int) = 0 from rfl] at e
            rw [e, obs]
            cases o with
            | ret r => exact ⟨r, rfl, fun he => by have := ho (by rw [he]); cases this⟩
            | done u => exact ⟨true, rfl, fun _ => rfl⟩
          · rw [if_pos (by simp; omega)]
            exact ⟨false, rfl, fun he => absurd (by rw [he]) c4⟩
        · rw [if_neg (by simpa using c3)]
          exact ⟨false, rfl, fun he => absurd (by rw [he]) c3⟩
      | false =>
        rw [if_neg (by decide)]
        refine ⟨false, rfl, fun he => ?_⟩
        rw [he, sEq_refl] at c2; cases c2
    · rw [if_neg (by simpa using c1)]
      exact ⟨false, rfl, fun he => absurd (by rw [he]) c1⟩
theorem termIn {k : Nat} (hk : 1000000 < k - maxLen) {l : List GTerm} (h : LI l) {j0 : Nat} (hj : j0 < l.length) : ∃ r : Int, pimpl_TermIn k l l[j0] = some r ∧ 0 ≤ r := by
  have hM := maxLen_eq
  have hl := h.1
  have L : ∀ (m j : Nat), j ≤ j0 → l.length - j < m → ∃ r : Int, pslices_IndexFunc___impl_Term_impl_Term__on1_pimpl_TermIn_1_L1 k l l[j0] m (j : Int) = some (.ret r) ∧ 0 ≤ r := by
    intro m
    induction m with
    | zero => intro j h1 h2; omega
    | succ m ih =>
      intro j h1 h2
      have c : j < l.length := by omega
      rw [pslices_IndexFunc___impl_Term_impl_Term__on1_pimpl_TermIn_1_L1, if_pos (by simpa using c), at_lt c, obs]
      have hn := (h.2 _ (List.getElem_mem c)).2
      obtain ⟨b, e, hb⟩ := implSame k l[j] l[j0] (by omega) (by omega)
      rw [pimpl_TermIn_1, e, obs, obs]
      cases b with
      | true => rw [if_pos rfl]; exact ⟨_, rfl, by omega⟩
      | false =>
        rw [if_neg (by decide), wr_succ c (by omega)]
        refine ih (j + 1) ?_ (by omega)
        rcases Nat.lt_or_ge j j0 with h' | h'
        · omega
        · have : j = j0 := by omega
          subst this
          have := hb rfl
          cases this
  obtain ⟨r, e, hr⟩ := L k 0 (by omega) (by omega)
  rw [show ((0 : Nat) : Int) = 0 from rfl] at e
  unfold pimpl_TermIn pslices_IndexFunc___impl_Term_impl_Term__on1_pimpl_TermIn_1
  rw [e, obs]
  exact ⟨r, rfl, hr⟩
theorem sameTerms {k : Nat} (hk : 1000000 < k - maxLen) {l : List GTerm} (h : LI l) : plaws_sameTerms k l l = some true := by
  have hM := maxLen_eq
  have hH : Huge = 1152921504606846976 := rfl
  have hl := h.1
  unfold plaws_sameTerms
  exact eq2 (f := pspec_SameTerm k) (L := plaws_sameTerms_L1 k l l) (by omega) (fun x hx => by have := (h.2 x hx).2; exact sameTerm k x (by omega) (by omega)) (fun m i => rfl) (k := k) (by omega)

theorem sizeOf {k : Nat} (hk : 1000000 < k - maxLen) {x : GTerm} (h : MadeT 3 x) : pspec_SizeOf k x = some ((1 + nT x : Nat) : Int) := by
  have hn := h.2
  unfold pspec_SizeOf
  obtain ⟨r, f, f1, f2, f3⟩ := l03Count k x (by omega) (gT_ok x 1 (h.1 1 (by omega))) 401 (by omega) (by omega)
  have f4 := f2.2 (by omega)
  have f5 := f3 f4
  rw [f, obs, if_neg (by simp; omega), wr_i64 (by omega) (by omega), f5]
  congr 1; omega
theorem size_L1 {k : Nat} (hk : 1000000 < k - maxLen) {l : List GTerm} (h : LI l) : ∀ (m j b : Nat), j ≤ l.length → l.length - j < m → b + nsum nT (l.drop j) + (l.length - j) ≤ 100000 →
    plaws_FnLists_L1 k l m (b : Int) (j : Int) = some (.done ((b + nsum nT (l.drop j) + (l.length - j) : Nat) : Int))
  | 0, j, b, h1, h2, h3 => by omega
  | m + 1, j, b, h1, h2, h3 => by
    have hM := maxLen_eq
    have hl := h.1
    rw [plaws_FnLists_L1]
    by_cases c : j < l.length
    · have hd := ns_drop c
      rw [if_pos (by simpa using c), at_lt c, obs, sizeOf hk (h.2 _ (List.getElem_mem c)), obs, wr_i64 (x := (b : Int) + 1) (by omega) (by omega), wr_i64 (by omega) (by omega), wr_succ c (by omega),
        show (b : Int) + 1 + ((1 + nT l[j] : Nat) : Int) = ((b + 1 + (1 + nT l[j]) : Nat) : Int) by omega, size_L1 hk h m (j + 1) _ (by omega) (by omega) (by omega)]
      congr 3; omega
    · rw [if_neg (by simpa using c), List.drop_of_length_le (by omega), nsum, show l.length - j = 0 by omega]
      rfl

theorem l21Terms_L1 {k : Nat} (hk : 1000000 < k - maxLen) : ∀ (m j : Nat) (l : List GTerm) (c : GL01Cur), 6 - j < m → j ≤ 4 → l.length ≤ j → CurOk c → (∀ y ∈ l, MadeT 3 y) → ∃ l' c', pspec_l21Terms_L1 k m l (j : Int) c = some (.done (l', c')) ∧ CurOk c' ∧ l'.length ≤ 4 ∧ ∀ y ∈ l', MadeT 3 y
  | 0, j, l, c, h1, h2, h3, h4, h5 => by omega
  | m + 1, j, l, c, h1, h2, h3, h4, h5 => by
    rw [pspec_l21Terms_L1]
    obtain ⟨c1, v, e2, g1, l2, u2, _⟩ := l01Below h4 k 5
    have u2 := u2 (by decide)
    rw [e2, obs]
    by_cases q : (j : Int) < v
    · rw [if_pos (by simpa using q)]
      obtain ⟨c2, w, e3, g2, g3⟩ := l03Term g1 (k := k) hk
      rw [e3, obs, if_pos (by simp; omega), wr_i64 (by omega) (by omega), show ((j : Int) + 1) = ((j + 1 : Nat) : Int) by omega]
      exact l21Terms_L1 hk m (j + 1) _ c2 (by omega) (by omega) (by simp; omega) g2 (by
        intro y hy
        rcases List.mem_append.1 hy with hy | hy
        · exact h5 y hy
        · rw [List.mem_singleton.1 hy]; exact g3)
    · rw [if_neg (by simpa using q)]
      exact ⟨_, _, rfl, g1, by omega, h5⟩
theorem l21Terms {k : Nat} (hk : 1000000 < k - maxLen) {c : GL01Cur} (h : CurOk c) : ∃ c' l, pspec_l21Terms k c = some (c', l) ∧ CurOk c' ∧ LI l ∧ l.length ≤ 5 := by
  unfold pspec_l21Terms
  obtain ⟨l, c1, e2, h2, h3, h4⟩ := l21Terms_L1 hk k 0 [] c (by omega) (by omega) (by simp) h (fun y hy => by cases hy)
  rw [show ((0 : Nat) : Int) = 0 from rfl] at e2
  rw [e2, obs]
  simp only
  have no : ∀ c2, CurOk c2 → ∃ c' l', pspec_l21Terms_J2 k l false c2 = some (c', l') ∧ CurOk c' ∧ LI l' ∧ l'.length ≤ 5 := by
    intro c2 hc
    unfold pspec_l21Terms_J2
    rw [if_neg (by decide)]
    exact ⟨_, _, rfl, hc, ⟨by omega, h4⟩, by omega⟩
  by_cases q : (l.length : Int) > 0
  · rw [if_pos (by simpa using q)]
    obtain ⟨c2, b, e3, h5⟩ := l01Once h2 k 3
    rw [e3, obs]
    cases b with
    | false => exact no c2 h5
    | true =>
      unfold pspec_l21Terms_J2
      obtain ⟨hi, e4⟩ := at_int (l := l) (v := 0) (by omega) (by omega)
      rw [if_pos rfl, e4, obs, if_pos (by simp; omega)]
      refine ⟨_, _, rfl, h5, ⟨by simp; omega, fun y hy => ?_⟩, by simp; omega⟩
      rcases List.mem_append.1 hy with hy | hy
      · exact h4 y hy
      · rw [List.mem_singleton.1 hy]; exact h4 _ (List.getElem_mem hi)
  · rw [if_neg (by simpa using q)]
    exact no c1 h2

theorem law (a : List Int) (ha : okL (okI .u8) a) : ∃ k, plaws_FnLists k a = some true := by
  obtain ⟨k, hk⟩ : ∃ k, 10995116277760 < k - maxLen := ⟨10995116277761 + maxLen, by rw [Nat.add_sub_cancel]; decide⟩
  refine ⟨k, ?_⟩
  have hM := maxLen_eq
  have hk1 : 1000000 < k - maxLen := by omega
  unfold plaws_FnLists plaws_big
  rw [obs]
  by_cases hb : (a.length : Int) > 1048576
  · rw [if_pos (by simpa using hb)]
  rw [if_neg (by simpa using hb)]
  have hl : a.length ≤ 1048576 := by omega
  obtain ⟨c, e1, h1⟩ := l01New (k := k) hl (kz hk)
  obtain ⟨c1, l, e2, h2, hL, h5⟩ := l21Terms hk1 h1
  have e3 : pspec_DrawTermList k a = some l := by
    unfold pspec_DrawTermList
    rw [e1, obs, e2, obs]
  have hs := hL.sum
  have hn := hL.n
  have hr := nsum_rev l
  have hrl : l.reverse.length = l.length := List.length_reverse
  have hNr := hL.rev.n
  have ok1 := hL.tOk (by omega)
  have mk := listOfE hk1 hL NIL
  have e4 : pimpl_ListTerm k l = some (mkL l NIL) := by
    unfold pimpl_ListTerm pimpl_atom
    rw [obs, show (GTerm.mk 2 (bs [91, 93]) 0 []) = NIL from rfl, mk, obs, if_pos (by rw [decide_eq_true_eq]; omega), impl_TermOk (by omega) hL.okL, ok1, obs, if_pos rfl]
  have e5 := size_L1 hk1 hL k 0 1 (by omega) (by omega) (by rw [List.drop_zero]; omega)
  rw [show ((0 : Nat) : Int) = 0 from rfl, show ((1 : Nat) : Int) = 1 from rfl, List.drop_zero] at e5
  have e6 := itemsOf hk1 hL (by omega)
  have e7 := backward hk1 hL h5
  have e8 := backward hk1 hL.rev (by omega)
  rw [List.reverse_reverse] at e8
  have e9 := itemsOf hk1 hL.rev (by omega)
  have cp := copyTerm (k := k) (x := mkL l.reverse NIL) (by omega) (by omega)
  have lo := listOfE hk1 hL (mkL l.reverse NIL)
  have app : mkL l (mkL l.reverse NIL) = mkL (l ++ l.reverse) NIL := by simp [mkL]
  have hJ : LI (l ++ l.reverse) := ⟨by simp; omega, fun y hy => by
    rcases List.mem_append.1 hy with hy | hy
    · exact hL.2 y hy
    · exact hL.rev.2 y hy⟩
  have hJn := hJ.n
  have hJs : nsum nT (l ++ l.reverse) = 2 * nsum nT l := by rw [nsum_append, hr]; omega
  have hJl : (l ++ l.reverse).length = 2 * l.length := by simp; omega
  have e10 : pimpl_JoinedLists k (mkL l NIL) (mkL l.reverse NIL) = some (if tOk (mkL (l ++ l.reverse) NIL) = true then (mkL (l ++ l.reverse) NIL, true) else (GTerm.mk 0 (bs []) 0 [], false)) := by
    unfold pimpl_JoinedLists
    rw [e6, obs, e9, obs, cp, obs, lo, obs, if_neg (by simp), if_neg (by simp), app, impl_TermOk (by omega) hJ.okL, obs]
    cases tOk (mkL (l ++ l.reverse) NIL) <;> rfl
  rw [e3, obs, e4, obs, e5, obs]
  simp only
  rw [e6, obs, e7, obs, e8, obs, e10, obs]
  have zero : ∃ p, pimpl_ItemsOf k (GTerm.mk 0 (bs []) 0 []) = some p := by
    unfold pimpl_ItemsOf
    have h0 : nT (GTerm.mk 0 (bs []) 0 []) = 0 := by rw [nT, nTs]
    have ht : tOk (GTerm.mk 0 (bs []) 0 []) = false := by
      unfold FnLists.tOk
      rw [gT_eq]
      have : one (GTerm.mk 0 (bs []) 0 []) = false := by unfold one; rw [mk_gKind, if_neg (by decide), if_neg (by decide), if_neg (by decide), if_neg (by decide)]
      rw [this]; simp
    rw [impl_TermOk (by omega) (ok_mk (by omega) (by decide) (by omega) (by simp) (by simp)), ht, obs, if_pos (by decide)]
    exact ⟨_, rfl⟩
  by_cases hbig : 1 + nsum nT l + (l.length - 0) > 150
  · have e11 : ∃ p, pimpl_ItemsOf k (if tOk (mkL (l ++ l.reverse) NIL) = true then (mkL (l ++ l.reverse) NIL, true) else (GTerm.mk 0 (bs []) 0 [], false)).1 = some p := by
      split
      · rename_i ht
        have : nsum nT (l ++ l.reverse) + (l ++ l.reverse).length ≤ 399 := by
          unfold FnLists.tOk at ht; simp only [Bool.and_eq_true, decide_eq_true_eq] at ht; omega
        exact ⟨_, itemsOf hk1 hJ this⟩
      · exact zero
    obtain ⟨p, e11⟩ := e11
    rw [e11, obs, if_pos (by rw [decide_eq_true_eq]; omega)]
    have e12 : pspec_ListTerm k l = some (mkL l NIL) := by
      unfold pspec_ListTerm pspec_l21ListTermRaw pspec_l21Make pspec_l03Atom
      rw [if_neg (by rw [decide_eq_true_eq]; omega), obs, wr_i64 (by omega) (by omega), l21Make_L1 (by omega) l.length k _ (Nat.le_refl _) (by omega), List.take_length, show (GTerm.mk 2 (bs [91, 93]) 0 []) = NIL from rfl, obs]
      simp only
      rw [obs, spec_TermOk (by omega) hL.okL, ok1, obs, if_neg (by decide), obs, l34Term (by omega) (by omega), obs]
    rw [e12, obs, sameTerm k _ (by omega) (by have hH : Huge = 1152921504606846976 := rfl; omega), obs]
  · have hsm : nsum nT (l ++ l.reverse) + (l ++ l.reverse).length ≤ 399 := by omega
    rw [hJ.tOk hsm, if_pos rfl]
    simp only
    rw [itemsOf hk1 hJ hsm, obs, if_neg (by rw [decide_eq_true_eq]; omega)]
    have hS := sameTerm k (mkL l NIL) (by omega) (by have hH : Huge = 1152921504606846976 := rfl; omega)
    simp only [if_true, sameTerms hk1 hL, hS, Option.bind_some]
    rw [wr_i64 (x := 2 * (l.length : Int)) (by omega) (by omega), hJl, if_pos (by simp)]
    by_cases h0 : l.length = 0
    · rw [if_pos (by simpa using h0)]
    · rw [if_neg (by simpa using h0), wr_i64 (by omega) (by omega), show ((l.length : Int) - 1) = ((l.length - 1 : Nat) : Int) by omega, at_lt (by omega), obs]
      obtain ⟨r, e13, hr0⟩ := termIn hk1 hL (j0 := l.length - 1) (by omega)
      rw [e13, obs, decide_eq_true (by omega)]
end FnLists
end Go.Proofs.Ythemaodhckmnkaa

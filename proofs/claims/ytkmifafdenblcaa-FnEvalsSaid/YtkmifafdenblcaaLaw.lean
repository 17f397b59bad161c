/- The law, plainly. -/
import Derived.Test.YtkmifafdenblcaaFn
set_option linter.unusedVariables false
set_option linter.unusedSimpArgs false
namespace Go.Proofs.Ytkmifafdenblcaa
open Go.RowKit Go.Bv
namespace FnEvals
mutual
/-- How many terms stand in a term. -/
def nT : GTerm → Nat
  | .mk _ _ _ l => nTs l
def nTs : List GTerm → Nat
  | [] => 0
  | x :: l => 1 + nT x + nTs l
end
theorem nTs_eq : ∀ l : List GTerm, nTs l = nsum nT l
  | [] => by rw [nTs]; rfl
  | x :: l => by rw [nTs, nsum, nTs_eq l]
theorem nT_kids (x : GTerm) : nT x = nsum nT x.gKids := by
  cases x with
  | mk a b c l => rw [nT, nTs_eq]; rfl

theorem ok_kids {x : GTerm} (h : x.ok) : okL GTerm.ok x.gKids := by cases h with | mk a b c l h1 h2 h3 h4 h5 => exact ⟨h4, h5⟩
theorem ok_name {x : GTerm} (h : x.ok) : okFs x.gName := by cases h with | mk a b c l h1 h2 h3 h4 h5 => exact h2
theorem ok_kind {x : GTerm} (h : x.ok) : okI .i64 x.gKind := by cases h with | mk a b c l h1 h2 h3 h4 h5 => exact h1
theorem ok_num {x : GTerm} (h : x.ok) : okI .i64 x.gNum := by cases h with | mk a b c l h1 h2 h3 h4 h5 => exact h3

theorem mk_gKind (a : Int) (b : ByteArray) (c : Int) (l : List GTerm) : (GTerm.mk a b c l).gKind = a := rfl
theorem mk_gName (a : Int) (b : ByteArray) (c : Int) (l : List GTerm) : (GTerm.mk a b c l).gName = b := rfl
theorem mk_gNum (a : Int) (b : ByteArray) (c : Int) (l : List GTerm) : (GTerm.mk a b c l).gNum = c := rfl
theorem mk_gKids (a : Int) (b : ByteArray) (c : Int) (l : List GTerm) : (GTerm.mk a b c l).gKids = l := rfl

/-- Is it within these bounds? -/
def inR (x a b : Int) : Bool := decide (a ≤ x ∧ x ≤ b)
theorem inR_t {x a b : Int} (h : a ≤ x ∧ x ≤ b) : inR x a b = true := decide_eq_true h
theorem inR_f {x a b : Int} (h : ¬ (a ≤ x ∧ x ≤ b)) : inR x a b = false := decide_eq_false h

theorem l01In (k : Nat) (x a b : Int) : pspec_l01In k x a b = some (inR x a b) := by
  unfold pspec_l01In inR
  by_cases h : a ≤ x
  · rw [if_pos (by simpa using h)]; simp [h]
  · rw [if_neg (by simpa using h)]; simp [h]

theorem within (k : Nat) (x a b : Int) : pimpl_within k x a b = some (inR x a b) := by
  unfold pimpl_within inR
  by_cases h : a ≤ x
  · rw [if_pos (by simpa using h)]; simp [h]
  · rw [if_neg (by simpa using h)]; simp [h]
theorem bt_le (s : ByteArray) (i : Int) : 0 ≤ bt s i ∧ bt s i ≤ 255 := by
  unfold bt
  have : ((s[i.toNat]?).getD 0).toNat < 256 := ((s[i.toNat]?).getD 0).toNat_lt
  omega
/-- A byte that a name may have. -/
def gb (s : ByteArray) (i : Nat) : Prop := 33 ≤ bt s (i : Int) ∧ bt s (i : Int) ≤ 126 ∧ bt s (i : Int) ≠ 39 ∧ bt s (i : Int) ≠ 34
instance (s : ByteArray) (i : Nat) : Decidable (gb s i) := by unfold gb; infer_instance
/-- A name. -/
def nmOk (s : ByteArray) : Prop := (∀ i, i < s.size → gb s i) ∧ 1 ≤ s.size ∧ s.size ≤ 20
instance (s : ByteArray) : Decidable (nmOk s) := by unfold nmOk; infer_instance

theorem l03Name_L1 (k : Nat) (s : ByteArray) (hs : s.size ≤ maxLen) : ∀ (m n : Nat), n ≤ s.size → s.size - n < m →
    ∃ o, pspec_l03Name_L1 k s m (n : Int) = some o ∧ (match o with | .ret r => r = false ∧ ∃ i, i < s.size ∧ ¬ gb s i | .done _ => ∀ i, n ≤ i → i < s.size → gb s i)
  | 0, n, h1, h2 => by omega
  | m + 1, n, h1, h2 => by
    unfold pspec_l03Name_L1
    by_cases hlt : n < s.size
    · have hg : 0 ≤ (n : Int) ∧ (n : Int).toNat < s.size := ⟨by omega, by simpa using hlt⟩
      have bad : ∀ b : Prop, (gb s n → ¬ b) → b → ∃ o, (some (Out.ret false) : Option (Out Bool Unit)) = some o ∧ (match o with | .ret r => r = false ∧ ∃ i, i < s.size ∧ ¬ gb s i | .done _ => ∀ i, n ≤ i → i < s.size → gb s i) :=
        fun b h hb => ⟨_, rfl, rfl, n, hlt, fun h' => h h' hb⟩
      rw [if_pos (by simpa using hlt), if_pos hg]
      by_cases c1 : bt s (n : Int) < 33
      · rw [if_pos (by simpa using c1)]; exact bad _ (fun h => by have := h.1; omega) c1
      rw [if_neg (by simpa using c1), if_pos hg]
      by_cases c2 : bt s (n : Int) > 126
      · rw [if_pos (by simpa using c2)]; exact bad _ (fun h => by have := h.2.1; omega) c2
      rw [if_neg (by simpa using c2), if_pos hg]
      by_cases c3 : bt s (n : Int) = 39
      · rw [if_pos (by simpa using c3)]; exact bad _ (fun h => h.2.2.1) c3
      rw [if_neg (by simpa using c3), if_pos hg]
      by_cases c4 : bt s (n : Int) = 34
      · rw [if_pos (by simpa using c4)]; exact bad _ (fun h => h.2.2.2) c4
      rw [if_neg (by simpa using c4), wr_succ hlt hs]
      obtain ⟨o, h3, h4⟩ := l03Name_L1 k s hs m (n + 1) (by omega) (by omega)
      refine ⟨o, h3, ?_⟩
      cases o with
      | ret r => exact h4
      | done u =>
        intro i hi1 hi2
        by_cases e : i = n
        · subst e; exact ⟨by omega, by omega, c3, c4⟩
        · exact h4 i (by omega) hi2
    · rw [if_neg (by simpa using hlt)]
      exact ⟨_, rfl, fun i h3 h4 => by omega⟩

theorem nameOk_L1 (k : Nat) (s : ByteArray) (hs : s.size ≤ maxLen) : ∀ (m n : Nat), n ≤ s.size → s.size - n < m →
    ∃ o, pimpl_nameOk_L1 k s m (n : Int) = some o ∧ (match o with | .ret r => r = false ∧ ∃ i, i < s.size ∧ ¬ gb s i | .done _ => ∀ i, n ≤ i → i < s.size → gb s i)
  | 0, n, h1, h2 => by omega
  | m + 1, n, h1, h2 => by
    unfold pimpl_nameOk_L1
    by_cases hlt : n < s.size
    · have hg : 0 ≤ (n : Int) ∧ (n : Int).toNat < s.size := ⟨by omega, by simpa using hlt⟩
      have hb := bt_le s (n : Int)
      have bad : ∀ b : Prop, (gb s n → ¬ b) → b → ∃ o, (some (Out.ret false) : Option (Out Bool Unit)) = some o ∧ (match o with | .ret r => r = false ∧ ∃ i, i < s.size ∧ ¬ gb s i | .done _ => ∀ i, n ≤ i → i < s.size → gb s i) :=
        fun b h hb => ⟨_, rfl, rfl, n, hlt, fun h' => h h' hb⟩
      rw [if_pos (by simpa using hlt), if_pos hg, within, wr_i64 (by omega) (by omega)]
      simp only [Option.bind_some]
      by_cases c1 : 33 ≤ bt s (n : Int) ∧ bt s (n : Int) ≤ 126
      · rw [inR_t c1, if_neg (by simp), if_pos hg]
        by_cases c3 : bt s (n : Int) = 39
        · rw [if_pos (by simpa using c3)]; exact bad _ (fun h => h.2.2.1) c3
        rw [if_neg (by simpa using c3), if_pos hg]
        by_cases c4 : bt s (n : Int) = 34
        · rw [if_pos (by simpa using c4)]; exact bad _ (fun h => h.2.2.2) c4
        rw [if_neg (by simpa using c4), wr_succ hlt hs]
        obtain ⟨o, h3, h4⟩ := nameOk_L1 k s hs m (n + 1) (by omega) (by omega)
        refine ⟨o, h3, ?_⟩
        cases o with
        | ret r => exact h4
        | done u =>
          intro i hi1 hi2
          by_cases e : i = n
          · subst e; exact ⟨by omega, by omega, c3, c4⟩
          · exact h4 i (by omega) hi2
      · rw [inR_f c1, if_pos (by simp)]
        exact bad _ (fun h => by have := h.1; have := h.2.1; omega) c1
    · rw [if_neg (by simpa using hlt)]
      exact ⟨_, rfl, fun i h3 h4 => by omega⟩

theorem nm_of {s : ByteArray} (h : ∀ i, 0 ≤ i → i < s.size → gb s i) : inR (s.size : Int) 1 20 = decide (nmOk s) := by
  unfold inR
  rw [decide_eq_decide]
  unfold nmOk
  constructor
  · intro h1; exact ⟨fun i hi => h i (by omega) hi, by omega, by omega⟩
  · intro h1; obtain ⟨_, h5, h6⟩ := h1; omega

theorem l03Name {k : Nat} {s : ByteArray} (hs : s.size ≤ maxLen) (hk : maxLen < k) : pspec_l03Name k s = some (decide (nmOk s)) := by
  unfold pspec_l03Name
  obtain ⟨o, h1, h2⟩ := l03Name_L1 k s hs k 0 (by omega) (by omega)
  rw [show ((0 : Nat) : Int) = 0 from rfl] at h1
  rw [h1]
  cases o with
  | ret r =>
    obtain ⟨rfl, i, h3, h4⟩ := h2
    have : ¬ nmOk s := fun h => h4 (h.1 i h3)
    simp [this]
  | done u =>
    simp only [Option.bind_some]
    rw [l01In]
    simp only [Option.bind_some]
    rw [nm_of h2]

theorem nameOk {k : Nat} {s : ByteArray} (hs : s.size ≤ maxLen) (hk : maxLen < k) : pimpl_nameOk k s = some (decide (nmOk s)) := by
  unfold pimpl_nameOk
  obtain ⟨o, h1, h2⟩ := nameOk_L1 k s hs k 0 (by omega) (by omega)
  rw [show ((0 : Nat) : Int) = 0 from rfl] at h1
  rw [h1]
  cases o with
  | ret r =>
    obtain ⟨rfl, i, h3, h4⟩ := h2
    have : ¬ nmOk s := fun h => h4 (h.1 i h3)
    simp [this]
  | done u =>
    simp only [Option.bind_some]
    rw [within]
    simp only [Option.bind_some]
    rw [nm_of h2]

/-- The head of a term is as it should be. -/
def one (x : GTerm) : Bool :=
  if x.gKind = 1 then inR x.gNum 0 99999 && (sEq x.gName (bs []) && ((x.gKids.length : Int) == 0))
  else if x.gKind = 2 then decide (nmOk x.gName) && ((x.gNum == 0) && ((x.gKids.length : Int) == 0))
  else if x.gKind = 3 then inR x.gNum (-999999999) 999999999 && (sEq x.gName (bs []) && ((x.gKids.length : Int) == 0))
  else if x.gKind = 4 then decide (nmOk x.gName) && ((x.gNum == 0) && inR (x.gKids.length : Int) 1 5)
  else false
mutual
/-- A term, at a depth, is as it should be. -/
def gT : Int → GTerm → Bool
  | d, .mk a b c l => decide (d ≤ 40) && (one (.mk a b c l) && gTs (d + 1) l)
def gTs : Int → List GTerm → Bool
  | _, [] => true
  | d, x :: l => gT d x && gTs d l
end
theorem gT_eq (d : Int) (x : GTerm) : gT d x = (decide (d ≤ 40) && (one x && gTs (d + 1) x.gKids)) := by
  cases x with
  | mk a b c l => rw [gT]; rfl
theorem gTs_drop {d : Int} {l : List GTerm} {j : Nat} (h : j < l.length) : gTs d (l.drop j) = (gT d l[j] && gTs d (l.drop (j + 1))) := by
  rw [List.drop_eq_getElem_cons h, gTs]
theorem ns_drop {l : List GTerm} {j : Nat} (h : j < l.length) : nsum nT (l.drop j) = 1 + nT l[j] + nsum nT (l.drop (j + 1)) := by
  rw [List.drop_eq_getElem_cons h, nsum]

theorem l03One {k : Nat} {x : GTerm} (hx : x.ok) (hk : maxLen < k) : pspec_l03One k x = some (one x) := by
  have hn := l03Name (k := k) (s := x.gName) (ok_name hx) hk
  unfold pspec_l03One one
  simp only [hn, l01In, Option.bind_some]
  by_cases c1 : x.gKind = 1
  · rw [if_pos (by simpa using c1), if_pos c1]
    cases inR x.gNum 0 99999 <;> cases sEq x.gName (bs []) <;> simp
  rw [if_neg (by simpa using c1), if_neg c1]
  by_cases c2 : x.gKind = 2
  · rw [if_pos (by simpa using c2), if_pos c2]
    cases decide (nmOk x.gName) <;> by_cases h : x.gNum = 0 <;> simp [h]
  rw [if_neg (by simpa using c2), if_neg c2]
  by_cases c3 : x.gKind = 3
  · rw [if_pos (by simpa using c3), if_pos c3]
    cases inR x.gNum (-999999999) 999999999 <;> cases sEq x.gName (bs []) <;> simp
  rw [if_neg (by simpa using c3), if_neg c3]
  by_cases c4 : x.gKind = 4
  · rw [if_pos (by simpa using c4), if_pos c4]
    cases decide (nmOk x.gName) <;> by_cases h : x.gNum = 0 <;> simp [h]
  · rw [if_neg (by simpa using c4), if_neg c4]

/-- What is left of so many terms. -/
def leftOf (v left : Int) (n : Nat) : Prop := -1 ≤ v ∧ (0 ≤ v ↔ (n : Int) ≤ left) ∧ (0 ≤ v → v = left - (n : Int))
theorem l03Count_L1 {k : Nat} {x : GTerm} {f : GTerm → Int → Option Int} (hx : x.gKids.length ≤ maxLen) (hf : ∀ y ∈ x.gKids, ∀ b, 0 ≤ b → b ≤ 401 → ∃ v, f y b = some v ∧ leftOf v b (1 + nT y)) :
    ∀ (m j : Nat) (b : Int), j ≤ x.gKids.length → x.gKids.length - j < m → -1 ≤ b → b ≤ 401 →
      ∃ v, pspec_l03Count_L1 k f x m b (j : Int) = some (.done v) ∧ ((b = -1 ∧ v = -1) ∨ (0 ≤ b ∧ leftOf v b (nsum nT (x.gKids.drop j))))
  | 0, j, b, h1, h2, h3, h4 => by omega
  | m + 1, j, b, h1, h2, h3, h4 => by
    unfold pspec_l03Count_L1
    by_cases hlt : j < x.gKids.length
    · rw [if_pos (by simpa using hlt)]
      by_cases hb : 0 ≤ b
      · rw [if_pos (by simpa using hb), at_lt hlt]
        simp only [Option.bind_some]
        obtain ⟨v, e, g1, g2, g3⟩ := hf _ (List.getElem_mem hlt) b hb h4
        rw [e]
        simp only [Option.bind_some]
        rw [wr_succ hlt hx]
        obtain ⟨u, e2, h5⟩ := l03Count_L1 (k := k) hx hf m (j + 1) v (by omega) (by omega) g1 (by by_cases h : 0 ≤ v <;> omega)
        refine ⟨u, e2, .inr ⟨hb, ?_⟩⟩
        rw [ns_drop hlt]
        rcases h5 with ⟨rfl, rfl⟩ | ⟨h6, h7, h8, h9⟩
        · refine ⟨by omega, ⟨fun h => by omega, fun h => by have := g2.2 (by omega); omega⟩, fun h => by omega⟩
        · have := g3 h6
          have := g2.1 h6
          refine ⟨h7, ⟨fun h => by have := h8.1 h; omega, fun h => h8.2 (by omega)⟩, fun h => by have := h9 h; omega⟩
      · rw [if_neg (by simpa using hb)]
        exact ⟨b, rfl, .inl ⟨by omega, by omega⟩⟩
    · rw [if_neg (by simpa using hlt)]
      rw [List.drop_of_length_le (by omega)]
      by_cases hb : 0 ≤ b
      · exact ⟨b, rfl, .inr ⟨hb, h3, by simp only [nsum]; omega, fun _ => by simp only [nsum]; omega⟩⟩
      · exact ⟨b, rfl, .inl ⟨by omega, by omega⟩⟩

theorem l03Count : ∀ (k : Nat) (x : GTerm), maxLen + 2 * nT x + 2 < k → x.ok → ∀ b : Int, 0 ≤ b → b ≤ 401 → ∃ v, pspec_l03Count k x b = some v ∧ leftOf v b (1 + nT x)
  | 0, x, h => by omega
  | k + 1, x, hw => by
    intro hx b h0 h1
    have hn := nT_kids x
    unfold pspec_l03Count
    rw [wr_i64 (by omega) (by omega)]
    obtain ⟨v, e, h⟩ := l03Count_L1 (k := k) (x := x) (ok_kids hx).1 (fun y hy b h0 h1 => by have := nsum_mem (n := nT) hy; exact l03Count k y (by omega) ((ok_kids hx).2 y hy) b h0 h1) k 0 (b - 1) (by omega) (by have := (ok_kids hx).1; omega) (by omega) (by omega)
    rw [show ((0 : Nat) : Int) = 0 from rfl] at e
    rw [e]
    refine ⟨v, rfl, ?_⟩
    rw [List.drop_zero, ← hn] at h
    rcases h with ⟨h2, rfl⟩ | ⟨h2, h3, h4, h5⟩
    · exact ⟨by omega, ⟨fun h => by omega, fun h => by omega⟩, fun h => by omega⟩
    · exact ⟨h3, ⟨fun h => by have := h4.1 h; omega, fun h => h4.2 (by omega)⟩, fun h => by have := h5 h; omega⟩

theorem l03Right_L1 {k : Nat} {x : GTerm} {d : Int} {f : GTerm → Int → Option Bool} (hx : x.gKids.length ≤ maxLen) (hd : wr.i64 (d + 1) = d + 1) (hf : ∀ y ∈ x.gKids, f y (d + 1) = some (gT (d + 1) y)) :
    ∀ (m j : Nat), j ≤ x.gKids.length → x.gKids.length - j < m → pspec_l03Right_L1 k f x d m (j : Int) = some (if gTs (d + 1) (x.gKids.drop j) then .done () else .ret false)
  | 0, j, h1, h2 => by omega
  | m + 1, j, h1, h2 => by
    unfold pspec_l03Right_L1
    by_cases hlt : j < x.gKids.length
    · rw [if_pos (by simpa using hlt), at_lt hlt, hd]
      simp only [Option.bind_some, hf _ (List.getElem_mem hlt)]
      rw [gTs_drop hlt]
      cases hg : gT (d + 1) x.gKids[j] with
      | false => simp
      | true =>
        rw [if_neg (by simp), wr_succ hlt hx, l03Right_L1 hx hd hf m (j + 1) (by omega) (by omega)]
        simp
    · rw [if_neg (by simpa using hlt), List.drop_of_length_le (by omega), gTs]; rfl

theorem l03Right : ∀ (k : Nat) (x : GTerm), maxLen + 2 * nT x + 2 < k → x.ok → ∀ d : Int, 0 ≤ d → d ≤ 41 → pspec_l03Right k x d = some (gT d x)
  | 0, x, h => by omega
  | k + 1, x, hw => by
    intro hx d h0 h1
    have hn := nT_kids x
    unfold pspec_l03Right
    rw [gT_eq]
    by_cases hd : d > 40
    · rw [if_pos (by simpa using hd)]; simp; omega
    · rw [if_neg (by simpa using hd), l03One hx (by omega)]
      simp only [Option.bind_some]
      cases h1 : one x with
      | false => simp
      | true =>
        rw [if_neg (by simp)]
        have e := l03Right_L1 (k := k) (x := x) (d := d) (ok_kids hx).1 (wr_i64 (by omega) (by omega)) (fun y hy => by have := nsum_mem (n := nT) hy; exact l03Right k y (by omega) ((ok_kids hx).2 y hy) (d + 1) (by omega) (by omega)) k 0 (by omega) (by have := (ok_kids hx).1; omega)
        rw [show ((0 : Nat) : Int) = 0 from rfl, List.drop_zero] at e
        rw [e]
        cases gTs (d + 1) x.gKids <;> simp <;> omega

/-- A term is right. -/
def tOk (x : GTerm) : Bool := decide (1 + nT x ≤ 400) && gT 1 x
theorem spec_TermOk {k : Nat} {x : GTerm} (hw : maxLen + 2 * nT x + 2 < k) (hx : x.ok) : pspec_TermOk k x = some (tOk x) := by
  unfold pspec_TermOk tOk
  obtain ⟨v, e, h1, h2, h3⟩ := l03Count k x hw hx 400 (by omega) (by omega)
  rw [e]
  simp only [Option.bind_some]
  by_cases hv : 0 ≤ v
  · rw [if_pos (by simpa using hv), l03Right k x hw hx 1 (by omega) (by omega)]
    have := h2.1 hv
    simp; omega
  · rw [if_neg (by simpa using hv)]
    have : ¬ (1 + nT x ≤ 400) := fun h => hv (h2.2 (by omega))
    simp [this]

/-- What the program counts. -/
theorem l03Has_L1 (k : Nat) {l : List Int} (x : Int) (hl : l.length ≤ maxLen) : ∀ (m j : Nat), j ≤ l.length → l.length - j < m → pspec_l03Has_L1 k l x m (j : Int) = some (if x ∈ l.drop j then .ret true else .done ())
  | 0, j, h1, h2 => by omega
  | m + 1, j, h1, h2 => by
    unfold pspec_l03Has_L1
    by_cases hlt : j < l.length
    · rw [if_pos (by simpa using hlt), at_lt hlt, List.drop_eq_getElem_cons hlt]
      simp only [Option.bind_some]
      by_cases e : l[j] = x
      · rw [if_pos (by simpa using e), if_pos (by simp [e])]
      · rw [if_neg (by simpa using e), wr_succ hlt hl, l03Has_L1 k x hl m (j + 1) (by omega) (by omega)]
        have : (x ∈ l[j] :: l.drop (j + 1)) ↔ x ∈ l.drop (j + 1) := by
          rw [List.mem_cons]; exact ⟨fun h => h.resolve_left (fun h => e h.symm), .inr⟩
        simp only [this]
    · rw [if_neg (by simpa using hlt), List.drop_of_length_le (by omega)]; simp
theorem l03Has {k : Nat} {l : List Int} (x : Int) (hl : l.length ≤ maxLen) (hk : maxLen < k) : pspec_l03Has k l x = some (decide (x ∈ l)) := by
  unfold pspec_l03Has
  have e := l03Has_L1 k x hl k 0 (by omega) (by omega)
  rw [show ((0 : Nat) : Int) = 0 from rfl, List.drop_zero] at e
  rw [e]
  by_cases h : x ∈ l <;> simp [h]
def uniq : List Int → List Int → List Int
  | [], o => o
  | x :: l, o => uniq l (if x ∈ o then o else o ++ [x])
theorem uniq_len : ∀ (l o : List Int), (uniq l o).length ≤ o.length + l.length
  | [], o => by simp [uniq]
  | x :: l, o => by
    have h := uniq_len l (if x ∈ o then o else o ++ [x])
    rw [uniq]
    split at h
    · rename_i c; rw [if_pos c]; simp only [List.length_cons]; omega
    · rename_i c; rw [if_neg c]; simp only [List.length_append, List.length_cons, List.length_nil] at h ⊢; omega
mutual
/-- The numbers of the variables of a term, in order. -/
def vs : GTerm → List Int
  | .mk a _ c l => (if a = 1 then [c] else []) ++ vss l
def vss : List GTerm → List Int
  | [] => []
  | x :: l => vs x ++ vss l
end
theorem vs_eq (x : GTerm) : vs x = (if x.gKind = 1 then [x.gNum] else []) ++ vss x.gKids := by cases x; rw [vs]; rfl
mutual
theorem vs_len : ∀ x : GTerm, (vs x).length ≤ 1 + nT x
  | .mk a b c l => by
    have h := vss_len l
    rw [vs, nT]
    split <;> simp <;> omega
theorem vss_len : ∀ l : List GTerm, (vss l).length ≤ nTs l
  | [] => by simp [vss, nTs]
  | x :: l => by
    have h1 := vs_len x
    have h2 := vss_len l
    rw [vss, nTs]
    simp only [List.length_append]; omega
end
theorem vss_drop {l : List GTerm} {j : Nat} (h : j < l.length) : vss (l.drop j) = vs l[j] ++ vss (l.drop (j + 1)) := by
  rw [List.drop_eq_getElem_cons h, vss]
theorem uniq_app : ∀ (a b o : List Int), uniq (a ++ b) o = uniq b (uniq a o)
  | [], b, o => by simp [uniq]
  | x :: a, b, o => by simp only [List.cons_append, uniq]; exact uniq_app a b _
theorem mem_uniq : ∀ (l o : List Int) (x : Int), x ∈ uniq l o ↔ x ∈ l ∨ x ∈ o
  | [], o, x => by simp [uniq]
  | y :: l, o, x => by
    rw [uniq, mem_uniq l]
    split
    · rename_i c
      constructor
      · rintro (h | h)
        · exact .inl (List.mem_cons_of_mem _ h)
        · exact .inr h
      · rintro (h | h)
        · rcases List.mem_cons.1 h with rfl | h
          · exact .inr c
          · exact .inl h
        · exact .inr h
    · simp only [List.mem_append, List.mem_cons, List.not_mem_nil, or_false]
      constructor
      · rintro (h | h | h)
        · exact .inl (.inr h)
        · exact .inr h
        · exact .inl (.inl h)
      · rintro ((h | h) | h)
        · exact .inr (.inr h)
        · exact .inl h
        · exact .inr (.inl h)

theorem l03Vars_L2 {k : Nat} {x : GTerm} {f : GTerm → List Int → Option (List Int)} (hx : x.gKids.length ≤ 1048576)
    (hf : ∀ y ∈ x.gKids, ∀ s, s.length + 1 + nT y ≤ 8388608 → f y s = some (uniq (vs y) s)) :
    ∀ (m j : Nat) (s : List Int), j ≤ x.gKids.length → x.gKids.length - j < m → s.length + nsum nT (x.gKids.drop j) ≤ 8388608 →
      pspec_l03Vars_L2 k f x m s (j : Int) = some (.done (uniq (vss (x.gKids.drop j)) s))
  | 0, j, s, h1, h2, h3 => by omega
  | m + 1, j, s, h1, h2, h3 => by
    have hm : x.gKids.length ≤ maxLen := by rw [maxLen_eq]; omega
    unfold pspec_l03Vars_L2
    by_cases hlt : j < x.gKids.length
    · rw [ns_drop hlt] at h3
      have hl := uniq_len (vs x.gKids[j]) s
      have hl2 := vs_len x.gKids[j]
      rw [if_pos (by simpa using hlt), at_lt hlt]
      simp only [Option.bind_some]
      rw [hf _ (List.getElem_mem hlt) s (by omega)]
      simp only [Option.bind_some]
      rw [wr_succ hlt hm, l03Vars_L2 hx hf m (j + 1) _ (by omega) (by omega) (by omega), vss_drop hlt, uniq_app]
    · rw [if_neg (by simpa using hlt), List.drop_of_length_le (by omega), vss, uniq]
theorem l03Vars : ∀ (k : Nat) (x : GTerm), maxLen + 2 * nT x + 2 < k → nT x ≤ 1048576 → ∀ s, s.length + 1 + nT x ≤ 8388608 → pspec_l03Vars k x s = some (uniq (vs x) s)
  | 0, x, h => by omega
  | k + 1, x, hw => by
    intro hn s h2
    have hk := nT_kids x
    have hlen := nsum_len nT x.gKids
    have hm : maxLen = 9223372036854775807 := maxLen_eq
    have e : ∀ s : List Int, s.length + nT x ≤ 8388608 → pspec_l03Vars_J1 k (pspec_l03Vars k) x s = some (uniq (vss x.gKids) s) := by
      intro s hs
      have e := l03Vars_L2 (k := k) (f := pspec_l03Vars k) (x := x) (by omega) (fun y hy s g2 => by have := nsum_mem (n := nT) hy; exact l03Vars k y (by omega) (by omega) s g2) k 0 s (by omega) (by omega) (by rw [List.drop_zero]; omega)
      rw [show ((0 : Nat) : Int) = 0 from rfl, List.drop_zero] at e
      unfold pspec_l03Vars_J1
      rw [e]; rfl
    unfold pspec_l03Vars
    rw [vs_eq]
    by_cases c1 : x.gKind = 1
    · rw [if_pos (by simpa using c1), if_pos c1, l03Has _ (by omega) (by omega)]
      simp only [Option.bind_some]
      unfold pspec_l03Vars_J3
      rw [List.singleton_append, uniq]
      by_cases hs : x.gNum ∈ s
      · rw [if_neg (by simp [hs]), if_pos hs, e s (by omega)]
      · rw [if_pos (by simp [hs]), if_neg hs, if_pos (by simp; omega), e _ (by simp; omega)]
    · rw [if_neg (by simpa using c1), if_neg c1]
      unfold pspec_l03Vars_J3
      rw [if_neg (by simp), List.nil_append, e s (by omega)]
theorem l34Terms_L1 {k : Nat} {f : GTerm → Option GTerm} {g : List GTerm → Option (List GTerm)} {l : List GTerm} (hl : l.length ≤ 1048576) (hf : ∀ x ∈ l, f x = some x) :
    ∀ (m j : Nat), j ≤ l.length → l.length - j < m → pspec_l34Terms_L1 k f g l m (l.take j) (j : Int) = some (.done l)
  | 0, j, h1, h2 => by omega
  | m + 1, j, h1, h2 => by
    unfold pspec_l34Terms_L1
    have hm : l.length ≤ maxLen := by rw [maxLen_eq]; omega
    by_cases hlt : j < l.length
    · rw [if_pos (by simpa using hlt), at_lt hlt]
      simp only [Option.bind_some, hf _ (List.getElem_mem hlt)]
      rw [if_pos (by simp; omega), wr_succ hlt hm, ← List.take_succ_eq_append_getElem hlt]
      exact l34Terms_L1 hl hf m (j + 1) (by omega) (by omega)
    · rw [if_neg (by simpa using hlt), List.take_of_length_le (by omega)]
theorem l34Both : ∀ k : Nat, (∀ l, maxLen + 2 * nsum nT l + 1 < k → nsum nT l ≤ 16777216 → l.length ≤ 1048576 → (∀ x ∈ l, nT x ≤ 1048576) → pspec_l34Terms k l = some l) ∧ (∀ x, maxLen + 2 * nT x + 2 < k → nT x ≤ 1048576 → pspec_l34Term k x = some x)
  | 0 => ⟨fun l h => by omega, fun x h => by omega⟩
  | k + 1 => by
    obtain ⟨ih1, ih2⟩ := l34Both k
    refine ⟨fun l hw hl h3 h4 => ?_, fun x hw hx => ?_⟩
    · have := nsum_len nT l
      unfold pspec_l34Terms
      have e := l34Terms_L1 (k := k) (f := pspec_l34Term k) (g := pspec_l34Terms k) (l := l) (by omega) (fun x hx => by have := nsum_mem (n := nT) hx; exact ih2 x (by omega) (h4 x hx)) k 0 (by omega) (by omega)
      rw [show ((0 : Nat) : Int) = 0 from rfl, List.take_zero] at e
      rw [e]; rfl
    · have hk := nT_kids x
      have := nsum_len nT x.gKids
      unfold pspec_l34Term
      rw [ih1 x.gKids (by omega) (by omega) (by omega) (fun y hy => by have := nsum_mem (n := nT) hy; omega)]
      cases x; rfl
theorem l34Term {k : Nat} {x : GTerm} (hw : maxLen + 2 * nT x + 2 < k) (hx : nT x ≤ 1048576) : pspec_l34Term k x = some x := (l34Both k).2 x hw hx
theorem l34Terms {k : Nat} {l : List GTerm} (hw : maxLen + 2 * nsum nT l + 2 < k) (hx : nsum nT l ≤ 1048576) : pspec_l34Terms k l = some l := by
  have := nsum_len nT l
  exact (l34Both k).1 l (by omega) (by omega) (by omega) (fun x hx => by have := nsum_mem (n := nT) hx; omega)
/-! what is drawn -/
/-- Not by computation: the kernel must not look into the conditions. -/
theorem obs {α β : Type} {a : α} {f : α → Option β} : (some a).bind f = f a := by
  cases h : f a with
  | none => exact h
  | some b => exact h
theorem kk {n k : Nat} (m : Nat) (h : n < k - maxLen) (hm : m ≤ n := by decide) : maxLen + m < k := by
  rw [Nat.add_comm]
  exact Nat.add_lt_of_lt_sub (Nat.lt_of_le_of_lt hm h)
theorem kz {n k : Nat} (h : n < k - maxLen) : maxLen < k := by
  have := kk 0 h (Nat.zero_le _)
  exact this
theorem kle {n k : Nat} (m : Nat) (h : n < k - maxLen) (hm : m ≤ n := by decide) : m < k - maxLen := Nat.lt_of_le_of_lt hm h
theorem band255 (x : Int) : 0 ≤ band .i64 x 255 ∧ band .i64 x 255 ≤ 255 := by
  have h : ∀ b : BitVec 64, (b &&& BitVec.ofInt 64 255).toNat ≤ 255 := by
    intro b
    rw [BitVec.toNat_and]
    exact Nat.and_le_right
  have e : band .i64 x 255 = IntKind.wrap .i64 ((BitVec.ofInt 64 x &&& BitVec.ofInt 64 255).toNat) := rfl
  have h1 := h (BitVec.ofInt 64 x)
  generalize (BitVec.ofInt 64 x &&& BitVec.ofInt 64 255).toNat = n at e h1
  have e2 : wr.i64 (n : Int) = n := wr_i64 (by omega) (by omega)
  rw [e, show IntKind.wrap .i64 (n : Int) = wr.i64 (n : Int) from rfl, e2]
  omega

theorem at_int {α : Type} {l : List α} {v : Int} (h1 : 0 ≤ v) (h2 : v < (l.length : Int)) : ∃ (h : v.toNat < l.length), at' l v = some l[v.toNat] := by
  obtain ⟨n, rfl⟩ := Int.eq_ofNat_of_zero_le h1
  exact ⟨by omega, at_lt (by omega)⟩
/-- A cursor is right. -/
def CurOk (c : GL01Cur) : Prop := c.gB.length ≤ 1048576 ∧ 0 ≤ c.gI ∧ c.gI ≤ (c.gB.length : Int)

theorem l01New_L1 (k : Nat) (a : List Int) (hl : a.length ≤ 1048576) : ∀ (m j : Nat) (h : Int), j ≤ a.length → a.length - j < m → ∃ r, pspec_l01New_L1 k a m h (j : Int) = some (.done r)
  | 0, j, h, h1, h2 => by omega
  | m + 1, j, h, h1, h2 => by
    rw [pspec_l01New_L1]
    have hM := maxLen_eq
    by_cases c : j < a.length
    · rw [if_pos (by simpa using c)]
      split
      · rw [at_lt c, wr_succ c (by omega)]
        exact l01New_L1 k a hl m (j + 1) _ (by omega) (by omega)
      · exact ⟨_, rfl⟩
    · rw [if_neg (by simpa using c)]
      exact ⟨_, rfl⟩
theorem l01New {k : Nat} {a : List Int} (hl : a.length ≤ 1048576) (hk : maxLen < k) : ∃ c, pspec_l01New k a = some c ∧ CurOk c := by
  unfold pspec_l01New
  have hM := maxLen_eq
  obtain ⟨r, e⟩ := l01New_L1 k a hl k 0 (wr.i64 (95101 + (a.length : Int))) (by omega) (by omega)
  rw [show ((0 : Nat) : Int) = 0 from rfl] at e
  rw [e]
  exact ⟨_, rfl, hl, by simp, by simp⟩
theorem l01Byte {c : GL01Cur} (h : CurOk c) (k : Nat) : ∃ c' v, pspec_l01Byte k c = some (c', v) ∧ CurOk c' ∧ 0 ≤ v ∧ v ≤ 255 := by
  unfold pspec_l01Byte
  obtain ⟨h1, h2, h3⟩ := h
  by_cases g : c.gI < (c.gB.length : Int)
  · rw [if_pos (by simpa using g)]
    obtain ⟨hn, e⟩ := at_int h2 g
    rw [e]
    refine ⟨_, _, rfl, ⟨h1, ?_, ?_⟩, (band255 _).1, (band255 _).2⟩
    · simp only; rw [wr_i64 (by omega) (by omega)]; omega
    · simp only; rw [wr_i64 (by omega) (by omega)]; omega
  · rw [if_neg (by simpa using g)]
    exact ⟨_, _, rfl, ⟨h1, h2, h3⟩, (band255 _).1, (band255 _).2⟩
theorem l01Below {c : GL01Cur} (h : CurOk c) (k : Nat) (n : Int) : ∃ c' v, pspec_l01Below k c n = some (c', v) ∧ CurOk c' ∧ 0 ≤ v ∧ (0 < n → v < n) ∧ (n ≤ 0 → v = 0) := by
  unfold pspec_l01Below
  by_cases g : n ≤ 0
  · rw [if_pos (by simpa using g)]
    exact ⟨_, _, rfl, h, by omega, by omega, fun _ => rfl⟩
  rw [if_neg (by simpa using g)]
  split
  · obtain ⟨c', v, e, h1, h2, h3⟩ := l01Byte h k
    rw [e]
    simp only [Option.bind_some]
    rw [if_pos (by omega)]
    exact ⟨_, _, rfl, h1, Int.tmod_nonneg _ h2, fun _ => Int.tmod_lt_of_pos _ (by omega), by omega⟩
  · obtain ⟨c1, v1, e1, h1, l1, u1⟩ := l01Byte h k
    obtain ⟨c2, v2, e2, h2, l2, u2⟩ := l01Byte h1 k
    obtain ⟨c3, v3, e3, h3, l3, u3⟩ := l01Byte h2 k
    obtain ⟨c4, v4, e4, h4, l4, u4⟩ := l01Byte h3 k
    simp only [e1, e2, e3, e4, Option.bind_some]
    rw [if_pos (by omega)]
    have w1 : wr.i64 (v1 * 16777216) = v1 * 16777216 := wr_i64 (by omega) (by omega)
    have w2 : wr.i64 (v2 * 65536) = v2 * 65536 := wr_i64 (by omega) (by omega)
    have w3 : wr.i64 (v3 * 256) = v3 * 256 := wr_i64 (by omega) (by omega)
    rw [w1, w2, w3, wr_i64 (x := v1 * 16777216 + v2 * 65536) (by omega) (by omega), wr_i64 (x := v1 * 16777216 + v2 * 65536 + v3 * 256) (by omega) (by omega), wr_i64 (by omega) (by omega)]
    exact ⟨_, _, rfl, h4, Int.tmod_nonneg _ (by omega), fun _ => Int.tmod_lt_of_pos _ (by omega), by omega⟩
theorem at_mem {α : Type} {l : List α} {v : Int} (h1 : 0 ≤ v) (h2 : v < (l.length : Int)) : ∃ x, at' l v = some x ∧ x ∈ l := by
  obtain ⟨hn, e⟩ := at_int h1 h2
  exact ⟨_, e, List.getElem_mem hn⟩
theorem l01Pick {c : GL01Cur} (h : CurOk c) (k : Nat) {l : List ByteArray} (hl : 0 < l.length) : ∃ c' s, pspec_l01Pick k c l = some (c', s) ∧ CurOk c' ∧ s ∈ l := by
  unfold pspec_l01Pick
  obtain ⟨c', v, e, h1, h2, h3, h4⟩ := l01Below h k (l.length : Int)
  obtain ⟨s, e2, h5⟩ := at_mem h2 (h3 (by omega))
  simp only [e, e2, Option.bind_some]
  exact ⟨_, _, rfl, h1, h5⟩
theorem l01PickInt {c : GL01Cur} (h : CurOk c) (k : Nat) {l : List Int} (hl : 0 < l.length) : ∃ c' s, pspec_l01PickInt k c l = some (c', s) ∧ CurOk c' ∧ s ∈ l := by
  unfold pspec_l01PickInt
  obtain ⟨c', v, e, h1, h2, h3, h4⟩ := l01Below h k (l.length : Int)
  obtain ⟨s, e2, h5⟩ := at_mem h2 (h3 (by omega))
  simp only [e, e2, Option.bind_some]
  exact ⟨_, _, rfl, h1, h5⟩
theorem ok_mk {a : Int} {b : ByteArray} {c : Int} {l : List GTerm} (h1 : -9223372036854775808 ≤ a ∧ a ≤ 9223372036854775807) (h2 : b.size ≤ 9223372036854775807) (h3 : -9223372036854775808 ≤ c ∧ c ≤ 9223372036854775807) (h4 : l.length ≤ 9223372036854775807) (h5 : ∀ x ∈ l, x.ok) : (GTerm.mk a b c l).ok := by
  have e1 : IntKind.i64.min = -9223372036854775808 := rfl
  have e2 : IntKind.i64.max = 9223372036854775807 := rfl
  have hM := maxLen_eq
  exact .mk _ _ _ _ (by unfold okI; omega) (by unfold okFs; omega) (by unfold okI; omega) (by omega) h5
/-- The head of a right term. -/
theorem one_ok {x : GTerm} (h : one x = true) : (1 ≤ x.gKind ∧ x.gKind ≤ 4) ∧ x.gName.size ≤ 20 ∧ (-999999999 ≤ x.gNum ∧ x.gNum ≤ 999999999) ∧ x.gKids.length ≤ 5 := by
  have hin : ∀ {x a b : Int}, inR x a b = true → a ≤ x ∧ x ≤ b := fun h => of_decide_eq_true h
  have hz : ∀ {s : ByteArray}, sEq s (bs []) = true → s.size ≤ 20 := fun h => by rw [sEq_iff.1 h]; decide
  unfold one at h
  split at h
  · simp only [Bool.and_eq_true, beq_iff_eq] at h
    have := hin h.1; have := hz h.2.1; omega
  split at h
  · simp only [Bool.and_eq_true, beq_iff_eq, decide_eq_true_eq] at h
    have := h.1.2.2; omega
  split at h
  · simp only [Bool.and_eq_true, beq_iff_eq] at h
    have := hin h.1; have := hz h.2.1; omega
  split at h
  · simp only [Bool.and_eq_true, beq_iff_eq, decide_eq_true_eq] at h
    have := h.1.2.2; have := hin h.2.2; omega
  · cases h
mutual
theorem gT_ok : ∀ (x : GTerm) (d : Int), gT d x = true → x.ok
  | .mk a b c l, d, h => by
    rw [gT_eq] at h
    simp only [Bool.and_eq_true] at h
    have := one_ok h.2.1
    simp only [mk_gKind, mk_gName, mk_gNum, mk_gKids] at this
    exact ok_mk (by omega) (by omega) (by omega) (by omega) (gTs_ok l (d + 1) h.2.2)
theorem gTs_ok : ∀ (l : List GTerm) (d : Int), gTs d l = true → ∀ x ∈ l, x.ok
  | [], d, h => fun x hx => by cases hx
  | x :: l, d, h => fun y hy => by
    rw [gTs, Bool.and_eq_true] at h
    cases hy with
    | head => exact gT_ok x d h.1
    | tail _ hy => exact gTs_ok l d h.2 y hy
end
theorem tOk_ok {x : GTerm} (h : tOk x = true) : x.ok ∧ nT x ≤ 399 := by
  unfold tOk at h
  simp only [Bool.and_eq_true, decide_eq_true_eq] at h
  exact ⟨gT_ok x 1 h.2, by omega⟩
theorem gTs_all {d : Int} : ∀ {l : List GTerm}, (∀ y ∈ l, gT d y = true) → gTs d l = true
  | [], _ => by rw [gTs]
  | x :: l, h => by rw [gTs, h x (List.mem_cons_self ..), gTs_all (fun y hy => h y (List.mem_cons_of_mem _ hy))]; rfl

theorem one_var {n : Int} (h : 0 ≤ n ∧ n ≤ 99999) : one (.mk 1 (bs []) n []) = true := by
  unfold one
  rw [mk_gKind, mk_gName, mk_gNum, mk_gKids, if_pos rfl, inR_t h, sEq_refl]; rfl
theorem one_atom {s : ByteArray} (h : nmOk s) : one (.mk 2 s 0 []) = true := by
  unfold one
  rw [mk_gKind, mk_gName, mk_gNum, mk_gKids, if_neg (by decide), if_pos rfl, decide_eq_true h]; rfl
theorem one_int {n : Int} (h : -999999999 ≤ n ∧ n ≤ 999999999) : one (.mk 3 (bs []) n []) = true := by
  unfold one
  rw [mk_gKind, mk_gName, mk_gNum, mk_gKids, if_neg (by decide), if_neg (by decide), if_pos rfl, inR_t h, sEq_refl]; rfl
theorem one_struct {s : ByteArray} {l : List GTerm} (h : nmOk s) (h1 : 1 ≤ l.length) (h2 : l.length ≤ 5) : one (.mk 4 s 0 l) = true := by
  unfold one
  rw [mk_gKind, mk_gName, mk_gNum, mk_gKids, if_neg (by decide), if_neg (by decide), if_neg (by decide), if_pos rfl, decide_eq_true h, inR_t (by omega)]; rfl
/-- A term that was made, so high at most. -/
def MadeT (d : Nat) (x : GTerm) : Prop := (∀ e : Int, e + (d : Int) ≤ 40 → gT e x = true) ∧ nT x + 1 ≤ 4 ^ d
theorem MadeT.leaf {x : GTerm} (d : Nat) (h1 : one x = true) (h2 : x.gKids = []) : MadeT d x := by
  refine ⟨fun e he => ?_, ?_⟩
  · rw [gT_eq, h1, h2, gTs, decide_eq_true (by omega)]; rfl
  · rw [nT_kids, h2]; exact Nat.one_le_pow _ _ (by omega)
theorem MadeT.node {d : Nat} {b : ByteArray} {l : List GTerm} (h1 : nmOk b) (h2 : 1 ≤ l.length) (h3 : l.length ≤ 3) (h4 : ∀ y ∈ l, MadeT d y) : MadeT (d + 1) (.mk 4 b 0 l) := by
  refine ⟨fun e he => ?_, ?_⟩
  · rw [gT_eq, mk_gKids, gTs_all (fun y hy => (h4 y hy).1 (e + 1) (by omega)), decide_eq_true (by omega), one_struct h1 h2 (by omega)]
    rfl
  · rw [nT_kids, mk_gKids]
    have : ∀ m : List GTerm, (∀ y ∈ m, MadeT d y) → nsum nT m ≤ m.length * 4 ^ d := by
      intro m
      induction m with
      | nil => intro _; exact Nat.zero_le _
      | cons x m ih =>
        intro hm
        have a := (hm x (List.mem_cons_self ..)).2
        have b := ih (fun y hy => hm y (List.mem_cons_of_mem _ hy))
        rw [nsum, List.length_cons, Nat.succ_mul]
        omega
    have a := this l h4
    have b : l.length * 4 ^ d ≤ 3 * 4 ^ d := Nat.mul_le_mul_right _ h3
    have c : 1 ≤ 4 ^ d := Nat.one_le_pow _ _ (by omega)
    rw [Nat.pow_succ]
    omega
theorem MadeT.up {d : Nat} {x : GTerm} (h : MadeT d x) (e : Nat) (he : d ≤ e) : MadeT e x :=
  ⟨fun f hf => h.1 f (by omega), Nat.le_trans h.2 (Nat.pow_le_pow_right (by omega) he)⟩
theorem MadeT.right {x : GTerm} (h : MadeT 3 x) : tOk x = true := by
  have := h.2
  unfold tOk
  rw [h.1 1 (by omega), decide_eq_true (by omega)]
  rfl
theorem names_ok {s : ByteArray} (h : s ∈ [(bs [97]), (bs [98]), (bs [91, 93]), (bs [43]), (bs [66, 105, 103]), bs [120], (bs [58, 45]), (bs [61, 46, 46]), (bs [61]), (bs [44]), (bs [102]), (bs [59]), (bs [103]), (bs [45]), bs [46], bs [115]]) : nmOk s := by
  have : ∀ s ∈ [(bs [97]), (bs [98]), (bs [91, 93]), (bs [43]), (bs [66, 105, 103]), bs [120], (bs [58, 45]), (bs [61, 46, 46]), (bs [61]), (bs [44]), (bs [102]), (bs [59]), (bs [103]), (bs [45]), bs [46], bs [115]], nmOk s := by decide +kernel
  exact this s h
theorem atom_made {s : ByteArray} (h : nmOk s) (d : Nat) : MadeT d (.mk 2 s 0 []) :=
  MadeT.leaf d (one_atom h) rfl

theorem l03Made_L2 {k d : Nat} {F : GL01Cur → Int → Option (GL01Cur × GTerm)} (hd : wr.i64 (((d + 1 : Nat) : Int) - 1) = (d : Int))
    (hF : ∀ c, CurOk c → ∃ c' t, F c (d : Int) = some (c', t) ∧ CurOk c' ∧ MadeT d t) {s : ByteArray} :
    ∀ (m j : Nat) (l : List GTerm) (c : GL01Cur), 4 - j < m → j ≤ 3 → CurOk c → l.length = j → (∀ y ∈ l, MadeT d y) →
      ∃ t c', pspec_l03Made_L2 k F ((d + 1 : Nat) : Int) m (j : Int) (.mk 4 s 0 l) c = some (.done (t, c')) ∧ CurOk c' ∧ ∃ l', t = .mk 4 s 0 l' ∧ l'.length ≤ 3 ∧ (1 ≤ j ∨ 1 ≤ l'.length) ∧ j ≤ l'.length ∧ ∀ y ∈ l', MadeT d y
  | 0, j, l, c, h1, h2, h3, h4, h5 => by omega
  | m + 1, j, l, c, h1, h2, h3, h4, h5 => by
    rw [pspec_l03Made_L2]
    obtain ⟨c', v, e, g1, g2, g3, _⟩ := l01Below h3 k 3
    have g3 := g3 (by decide)
    simp only [e, Option.bind_some]
    rw [wr_i64 (x := 1 + v) (by omega) (by omega)]
    by_cases q : (j : Int) < 1 + v
    · rw [if_pos (by simpa using q), mk_gKids, if_pos (by rw [decide_eq_true_eq]; omega), hd]
      obtain ⟨c2, t, e2, g4, g5⟩ := hF c' g1
      simp only [e2, Option.bind_some, mk_gKind, mk_gName, mk_gNum]
      rw [if_pos (by simp; omega), wr_i64 (by omega) (by omega), show ((j : Int) + 1) = ((j + 1 : Nat) : Int) by omega]
      obtain ⟨t', c3, e3, g6, l', rfl, g7, g8, g9, g10⟩ := l03Made_L2 (k := k) hd hF (s := s) m (j + 1) (l ++ [t]) c2 (by omega) (by omega) g4 (by simp; omega) (by
        intro y hy
        rcases List.mem_append.1 hy with hy | hy
        · exact h5 y hy
        · rw [List.mem_singleton.1 hy]; exact g5)
      exact ⟨_, c3, e3, g6, l', rfl, g7, .inr (by omega), by omega, g10⟩
    · rw [if_neg (by simpa using q)]
      exact ⟨_, _, rfl, g1, l, rfl, by omega, .inl (by omega), by omega, h5⟩

theorem l03Made : ∀ (d k : Nat), d ≤ 3 → d + 8 ≤ k → ∀ c, CurOk c → ∃ c' t, pspec_l03Made k c (d : Int) = some (c', t) ∧ CurOk c' ∧ MadeT d t
  | _, 0, _, h2, _, _ => by omega
  | d, k + 1, h1, h2, c, h => by
    rw [pspec_l03Made]
    obtain ⟨c1, v, e, g1, g2, g3, _⟩ := l01Below h k 10
    have g3 := g3 (by decide)
    simp only [e, Option.bind_some]
    have leaf : ∀ u : Int, 0 ≤ u → u < 6 → ∃ c' t, pspec_l03Made_J1 k (pspec_l03Made k) (c1, v) (d : Int) u = some (c', t) ∧ CurOk c' ∧ MadeT d t := by
      intro u u1 u2
      unfold pspec_l03Made_J1
      split
      · obtain ⟨c2, w, e2, g4, g5, g6, _⟩ := l01Below g1 k 4
        have g6 := g6 (by decide)
        simp only [e2, Option.bind_some, pspec_l03Var]
        refine ⟨_, _, rfl, g4, MadeT.leaf d (one_var (by omega)) rfl⟩
      split
      · rw [if_pos (by decide)]
        obtain ⟨c2, s, e2, g4, g5⟩ := l01Pick g1 k (l := [(bs [97]), (bs [98]), (bs [91, 93]), (bs [43]), (bs [66, 105, 103]), (bs [120, 32, 121]).extract ((0 : Int) : Int).toNat (1 : Int).toNat, (bs [58, 45]), (bs [61, 46, 46])]) (by decide)
        simp only [e2, Option.bind_some, pspec_l03Atom]
        refine ⟨_, _, rfl, g4, atom_made (names_ok ?_) d⟩
        have hx : (bs [120, 32, 121]).extract ((0 : Int) : Int).toNat (1 : Int).toNat = bs [120] := by decide
        rw [hx] at g5
        simp only [List.mem_cons, List.not_mem_nil, or_false] at g5 ⊢
        rcases g5 with h | h | h | h | h | h | h | h <;> simp [h]
      · rw [if_pos (by rw [decide_eq_true_eq]; exact u2)]
        obtain ⟨c2, s, e2, g4, g5⟩ := l01PickInt g1 k (l := [0, 1, -7, 999999999]) (by decide)
        simp only [e2, Option.bind_some, pspec_l03Num]
        refine ⟨_, _, rfl, g4, MadeT.leaf d (one_int (by
          simp only [List.mem_cons, List.not_mem_nil, or_false] at g5
          omega)) rfl⟩
    cases d with
    | zero =>
      rw [if_pos (by decide), if_pos (by decide)]
      have := Int.tmod_nonneg 6 g2
      have := Int.tmod_lt_of_pos v (b := 6) (by decide)
      exact leaf _ (by omega) (by omega)
    | succ d =>
      rw [if_neg (by rw [decide_eq_true_eq]; omega)]
      have hd : wr.i64 (((d + 1 : Nat) : Int) - 1) = (d : Int) := by rw [wr_i64 (by omega) (by omega)]; omega
      have hF := l03Made d k (by omega) (by omega)
      by_cases u : v < 6
      · exact leaf v g2 u
      unfold pspec_l03Made_J1
      rw [if_neg (by rw [decide_eq_true_eq]; omega), if_neg (by rw [decide_eq_true_eq]; omega), if_neg (by rw [decide_eq_true_eq]; omega)]
      have two : ∀ (s : ByteArray) (x y : GTerm), nmOk s → MadeT d x → MadeT d y → MadeT (d + 1) (.mk 4 s 0 [x, y]) := fun s x y h1 h2 h3 =>
        MadeT.node h1 (by simp) (by simp) (by
          intro z hz
          simp only [List.mem_cons, List.not_mem_nil, or_false] at hz
          rcases hz with rfl | rfl
          · exact h2
          · exact h3)
      split
      · rw [hd]
        obtain ⟨c2, x, e2, g4, g5⟩ := hF c1 g1
        obtain ⟨c3, y, e3, g6, g7⟩ := hF c2 g4
        simp only [e2, e3, Option.bind_some, pspec_l03Two]
        exact ⟨_, _, rfl, g6, two _ _ _ (names_ok (by simp)) g5 g7⟩
      split
      · obtain ⟨c1', s, e1, g1', gs⟩ := l01Pick g1 k (l := [(bs [43]), (bs [61]), (bs [44]), (bs [102]), (bs [59])]) (by decide)
        rw [hd]
        obtain ⟨c2, x, e2, g4, g5⟩ := hF c1' g1'
        obtain ⟨c3, y, e3, g6, g7⟩ := hF c2 g4
        simp only [e1, e2, e3, Option.bind_some, pspec_l03Two]
        refine ⟨_, _, rfl, g6, two _ _ _ (names_ok ?_) g5 g7⟩
        simp only [List.mem_cons, List.not_mem_nil, or_false] at gs ⊢
        rcases gs with h | h | h | h | h <;> simp [h]
      · obtain ⟨c1', s, e1, g1', gs⟩ := l01Pick g1 k (l := [(bs [102]), (bs [103]), (bs [45]), (bs [91, 93])]) (by decide)
        simp only [e1, Option.bind_some]
        obtain ⟨t, c', e2, g4, l', rfl, g5, g6, g7, g8⟩ := l03Made_L2 (k := k) hd hF (s := s) k 0 [] c1' (by omega) (by omega) g1' rfl (fun y hy => by cases hy)
        rw [show ((0 : Nat) : Int) = 0 from rfl] at e2
        rw [e2]
        refine ⟨_, _, rfl, g4, MadeT.node (names_ok ?_) (by omega) g5 g8⟩
        simp only [List.mem_cons, List.not_mem_nil, or_false] at gs ⊢
        rcases gs with h | h | h | h <;> simp [h]
theorem l03Term {c : GL01Cur} (h : CurOk c) {k : Nat} (hk : 1000000 < k - maxLen) : ∃ c' t, pspec_l03Term k c = some (c', t) ∧ CurOk c' ∧ MadeT 3 t := by
  unfold pspec_l03Term
  obtain ⟨c', t, e, h1, h2⟩ := l03Made 3 k (by omega) (by omega) c h
  have h3 := h2.2
  rw [show ((3 : Nat) : Int) = 3 from rfl] at e
  simp only [e, Option.bind_some]
  rw [spec_TermOk (by omega) (gT_ok t 1 (h2.1 1 (by omega))), h2.right]
  exact ⟨_, _, rfl, h1, h2⟩
/-- A term that may be wrong, but not large. -/
def AnyT (x : GTerm) : Prop := x.ok ∧ nT x ≤ 110
theorem MadeT.any {x : GTerm} (h : MadeT 3 x) : AnyT x := ⟨gT_ok x 1 (h.1 1 (by omega)), by have := h.2; omega⟩
theorem l03Any_L1 {k : Nat} {g : GL01Cur × Int} (h1 : 0 ≤ g.2) : ∀ (m j : Nat) (x : GTerm), 42 - j < m → j ≤ 41 → x.ok → nT x ≤ 63 + j → ∃ y, pspec_l03Any_L1 k g m (j : Int) x = some (.done y) ∧ AnyT y
  | 0, j, x, a1, a2, a3, a4 => by omega
  | m + 1, j, x, a1, a2, a3, a4 => by
    rw [pspec_l03Any_L1, if_pos (by decide)]
    have g1 := Int.tmod_nonneg 4 h1
    have g2 := Int.tmod_lt_of_pos g.2 (b := 4) (by decide)
    rw [wr_i64 (x := 38 + Int.tmod g.2 4) (by omega) (by omega)]
    by_cases q : (j : Int) < 38 + Int.tmod g.2 4
    · rw [if_pos (by simpa using q), wr_i64 (by omega) (by omega), show ((j : Int) + 1) = ((j + 1 : Nat) : Int) by omega]
      refine l03Any_L1 h1 m (j + 1) _ (by omega) (by omega) (ok_mk (by omega) (by decide) (by omega) (by simp) ?_) ?_
      · intro y hy; rw [List.mem_singleton.1 hy]; exact a3
      · rw [nT, nTs, nTs]; omega
    · rw [if_neg (by simpa using q)]
      exact ⟨_, rfl, a3, by omega⟩
theorem l03Any {c : GL01Cur} (h : CurOk c) {k : Nat} (hk : 1000000 < k - maxLen) : ∃ c' t, pspec_l03Any k c = some (c', t) ∧ CurOk c' ∧ AnyT t := by
  unfold pspec_l03Any
  obtain ⟨c1, v, e1, h1, l1, u1, _⟩ := l01Below h k 12
  obtain ⟨c2, w, e2, h2, l2, u2, _⟩ := l01Below h1 k 60
  obtain ⟨c3, t, e3, h3, h4⟩ := l03Made 3 k (by omega) (by omega) c2 h2
  rw [show ((3 : Nat) : Int) = 3 from rfl] at e3
  simp only [e1, e2, e3, Option.bind_some]
  have ok := gT_ok t 1 (h4.1 1 (by omega))
  have hn := h4.2
  obtain ⟨o1, o2, o3, o4, o5⟩ : okI .i64 t.gKind ∧ okFs t.gName ∧ okI .i64 t.gNum ∧ t.gKids.length ≤ maxLen ∧ ∀ y ∈ t.gKids, y.ok := by
    clear hn h4
    cases ok with | mk a b c l h1 h2 h3 h4 h5 => exact ⟨h1, h2, h3, h4, h5⟩
  have kk : ∀ q : Int, 0 ≤ q → q ≤ 1000000000 → okI .i64 q := fun q a b => by
    have e1 : IntKind.i64.min = -9223372036854775808 := rfl
    have e2 : IntKind.i64.max = 9223372036854775807 := rfl
    unfold okI; omega
  have nk : ∀ a b c, nT (.mk a b c t.gKids) = nT t := fun a b c => by rw [nT_kids, mk_gKids, ← nT_kids]
  split
  · rw [if_pos (by decide)]
    have := Int.tmod_nonneg 6 l2
    have := Int.tmod_lt_of_pos w (b := 6) (by decide)
    exact ⟨_, _, rfl, h3, .mk _ _ _ _ (kk _ (by omega) (by omega)) o2 o3 o4 o5, by rw [nk]; omega⟩
  split
  · rw [if_pos (by decide)]
    have g1 := Int.tmod_nonneg 4 l2
    have g2 := Int.tmod_lt_of_pos w (b := 4) (by decide)
    obtain ⟨s, e4, hs⟩ := at_mem (l := [(bs []), (bs [97, 32, 98]), (bs [39]), (bs [97, 97, 97, 97, 97, 97, 97, 97, 97, 97, 97, 97, 97, 97, 97, 97, 97, 97, 97, 97, 97])]) g1 (by simpa using g2)
    simp only [e4, Option.bind_some]
    refine ⟨_, _, rfl, h3, .mk _ _ _ _ o1 ?_ o3 o4 o5, by rw [nk]; omega⟩
    have : ∀ s ∈ [(bs []), (bs [97, 32, 98]), (bs [39]), (bs [97, 97, 97, 97, 97, 97, 97, 97, 97, 97, 97, 97, 97, 97, 97, 97, 97, 97, 97, 97, 97])], s.size ≤ 100 := by decide
    have := this s hs
    have hM := maxLen_eq
    unfold okFs; omega
  split
  · rw [if_pos (by decide)]
    have g1 := Int.tmod_nonneg 3 l2
    have g2 := Int.tmod_lt_of_pos w (b := 3) (by decide)
    obtain ⟨s, e4, hs⟩ := at_mem (l := [-1, 100000, 1000000000]) g1 (by simpa using g2)
    simp only [e4, Option.bind_some]
    refine ⟨_, _, rfl, h3, .mk _ _ _ _ o1 o2 ?_ o4 o5, by rw [nk]; omega⟩
    simp only [List.mem_cons, List.not_mem_nil, or_false] at hs
    have e1 : IntKind.i64.min = -9223372036854775808 := rfl
    have e2 : IntKind.i64.max = 9223372036854775807 := rfl
    unfold okI; omega
  split
  · obtain ⟨y, e4, hy⟩ := l03Any_L1 (k := k) (g := (c2, w)) l2 k 0 t (by omega) (by omega) ok (by omega)
    rw [show ((0 : Nat) : Int) = 0 from rfl] at e4
    rw [e4]
    exact ⟨_, _, rfl, h3, hy⟩
  · exact ⟨_, _, rfl, h3, ok, by omega⟩
theorem any_kid {x y : GTerm} (h : AnyT x) (hy : y ∈ x.gKids) : AnyT y := by
  obtain ⟨h1, h2⟩ := h
  have h3 := nT_kids x
  have h4 := nsum_mem (n := nT) hy
  refine ⟨?_, by omega⟩
  clear h2 h3 h4
  cases h1 with
  | mk a b c l h1 h2 h3 h4 h5 => exact h5 y hy
theorem any_kids {x : GTerm} (h : AnyT x) : x.gKids.length ≤ 110 := by
  have h2 := h.2
  have h3 := nT_kids x
  have h4 := nsum_len nT x.gKids
  omega
theorem walk_L1 (k : Nat) (l : List GTerm) (hl : l.length ≤ 1048576) (Q : GTerm → Prop) (hQ : ∀ z ∈ l, Q z) : ∀ (m n : Nat) (x : GTerm), Q x → n ≤ 5000 → 5000 - n < m →
    ∃ y, Q y ∧ pspec_l04Walk_L1 k l m (n : Int) x = some (.done y) ∧ pimpl_walked_L1 k l m (n : Int) x = some (.done y) ∧ pspec_l04Walk_i_L1 k l m (n : Int) x = some (.done y)
  | 0, n, x, hx, h1, h2 => by omega
  | m + 1, n, x, hx, h1, h2 => by
    unfold pspec_l04Walk_L1 pimpl_walked_L1 pspec_l04Walk_i_L1
    have hw1 : wr.i64 ((l.length : Int) - 1) = (l.length : Int) - 1 := wr_i64 (by omega) (by omega)
    by_cases hlt : n < 5000
    · have hd : decide ((n : Int) < 5000) = true := by simp; omega
      rw [if_pos hd, if_pos hd, if_pos hd, l01In, within, hw1]
      simp only [Option.bind_some]
      by_cases hk : x.gKind = 1
      · have e1 : (x.gKind != 1) = false := by simp [hk]
        have e2 : (x.gKind == 1) = true := by simp [hk]
        by_cases ha : 0 ≤ x.gNum ∧ x.gNum ≤ (l.length : Int) - 1
        · have e3 : inR x.gNum 0 ((l.length : Int) - 1) = true := inR_t ha
          obtain ⟨i, hi⟩ : ∃ i : Nat, x.gNum = (i : Int) := ⟨x.gNum.toNat, by omega⟩
          have hil : i < l.length := by omega
          have hs : wr.i64 ((n : Int) + 1) = ((n + 1 : Nat) : Int) := by rw [wr_i64 (by omega) (by omega)]; omega
          simp only [e1, e2, e3, Bool.not_true, Bool.false_eq_true, if_false, if_true]
          rw [hi]
          simp only [at_lt hil, Option.bind_some, hs]
          by_cases h0 : l[i].gKind = 0
          · have e4 : (l[i].gKind == 0) = true := by simp [h0]
            have e5 : (l[i].gKind != 0) = false := by simp [h0]
            simp only [e4, e5, Bool.false_eq_true, if_false, if_true]
            exact ⟨_, hx, rfl, rfl, rfl⟩
          · have e4 : (l[i].gKind == 0) = false := by simp [h0]
            have e5 : (l[i].gKind != 0) = true := by simp [h0]
            simp only [e4, e5, Bool.false_eq_true, if_false, if_true]
            exact walk_L1 k l hl Q hQ m (n + 1) _ (hQ _ (List.getElem_mem hil)) (by omega) (by omega)
        · have e3 : inR x.gNum 0 ((l.length : Int) - 1) = false := inR_f ha
          simp only [e1, e2, e3, Bool.not_false, Bool.false_eq_true, if_false, if_true]
          exact ⟨_, hx, rfl, rfl, rfl⟩
      · have e1 : (x.gKind != 1) = true := by simp [hk]
        have e2 : (x.gKind == 1) = false := by simp [hk]
        simp only [e1, e2, Bool.false_eq_true, if_false, if_true]
        exact ⟨_, hx, rfl, rfl, rfl⟩
    · have hd : ¬ decide ((n : Int) < 5000) = true := by simp; omega
      rw [if_neg hd, if_neg hd, if_neg hd]
      exact ⟨_, hx, rfl, rfl, rfl⟩
theorem walk3 {k : Nat} (hk : maxLen < k) {l : List GTerm} (hl : l.length ≤ 1048576) {Q : GTerm → Prop} (hQ : ∀ z ∈ l, Q z) {x : GTerm} (hx : Q x) :
    ∃ y, Q y ∧ pspec_l04Walk k l x = some y ∧ pimpl_walked k l x = some y ∧ pspec_l04Walk_i k l x = some (l, y) := by
  rw [maxLen_eq] at hk
  unfold pspec_l04Walk pimpl_walked pspec_l04Walk_i
  obtain ⟨y, hy, h1, h2, h3⟩ := walk_L1 k l hl Q hQ k 0 x hx (by omega) (by omega)
  rw [show ((0 : Nat) : Int) = 0 from rfl] at h1 h2 h3
  rw [h1, h2, h3]
  exact ⟨y, hy, rfl, rfl, rfl⟩
theorem walk {k : Nat} (hk : maxLen < k) {l : List GTerm} (hl : l.length ≤ 1048576) (x : GTerm) : ∃ y, pspec_l04Walk k l x = some y ∧ pimpl_walked k l x = some y := by
  obtain ⟨y, _, h1, h2, _⟩ := walk3 hk hl (Q := fun _ => True) (fun _ _ => trivial) (x := x) trivial
  exact ⟨y, h1, h2⟩
/-- Terms that are none too large. -/
def AllT (l : List GTerm) : Prop := ∀ z ∈ l, AnyT z
theorem AllT.set {l : List GTerm} (h : AllT l) (i : Nat) {x : GTerm} (hx : AnyT x) : AllT (l.set i x) := fun z hz => by
  rcases List.mem_or_eq_of_mem_set hz with h1 | rfl
  · exact h z h1
  · exact hx
theorem fill_L2 {k : Nat} {f : GL04Fill → GTerm → Int → Option (GL04Fill × GTerm)} {x : GTerm} {d : Int} {l : List GTerm} (hx : x.gKids.length ≤ 110) (hd : wr.i64 (d + 1) = d + 1) {L0 : Int} (hL : L0 ≤ 400)
    (hf : ∀ (c : GL04Fill) (z : GTerm), z ∈ x.gKids → c.gList = l → c.gBad = false → 0 ≤ c.gLeft → c.gLeft ≤ 400 → ∃ c' y, f c z (d + 1) = some (c', y) ∧ c'.gList = l ∧ c'.gLeft ≤ c.gLeft ∧ -1 ≤ c'.gLeft ∧ (c'.gBad = false → 0 ≤ c'.gLeft ∧ y.ok ∧ (1 + nT y : Int) ≤ c.gLeft - c'.gLeft)) :
    ∀ (m j : Nat) (o : GTerm) (c : GL04Fill), j ≤ x.gKids.length → x.gKids.length - j < m → c.gList = l → -1 ≤ c.gLeft → c.gLeft ≤ L0 → o.gKids.length ≤ j → (c.gBad = false → 0 ≤ c.gLeft ∧ (∀ z ∈ o.gKids, z.ok) ∧ (nsum nT o.gKids : Int) + c.gLeft ≤ L0) →
      ∃ o' c', pspec_l04Fill_fill_d_L2 k f x d m (j : Int) o c = some (.done (o', c')) ∧ c'.gList = l ∧ -1 ≤ c'.gLeft ∧ c'.gLeft ≤ L0 ∧ o'.gKind = o.gKind ∧ o'.gName = o.gName ∧ o'.gNum = o.gNum ∧ o'.gKids.length ≤ 110 ∧
        (c'.gBad = false → 0 ≤ c'.gLeft ∧ (∀ z ∈ o'.gKids, z.ok) ∧ (nsum nT o'.gKids : Int) + c'.gLeft ≤ L0)
  | 0, j, o, c, h1, h2, h3, h4, h5, h6, h7 => by omega
  | m + 1, j, o, c, h1, h2, h3, h4, h5, h6, h7 => by
    have hm : x.gKids.length ≤ maxLen := by rw [maxLen_eq]; omega
    unfold pspec_l04Fill_fill_d_L2
    by_cases hlt : j < x.gKids.length
    · rw [if_pos (by simpa using hlt)]
      cases hb : c.gBad with
      | true =>
        rw [if_neg (by simp)]
        exact ⟨_, _, rfl, h3, h4, h5, rfl, rfl, rfl, by omega, by rw [hb]; exact fun h => by cases h⟩
      | false =>
        rw [if_pos (by simp), at_lt hlt, hd]
        simp only [obs]
        obtain ⟨a1, a2, a3⟩ := h7 hb
        obtain ⟨c', y, e1, e2, e3, e4, e5⟩ := hf c x.gKids[j] (List.getElem_mem hlt) h3 hb a1 (by omega)
        rw [e1]
        simp only [obs]
        rw [if_pos (by simp; omega), wr_succ hlt hm]
        have := fill_L2 (k := k) hx hd hL hf m (j + 1) (GTerm.mk o.gKind o.gName o.gNum (o.gKids ++ [y])) c' (by omega) (by omega) e2 e4 (by omega) (by rw [mk_gKids, List.length_append]; simp; omega) (fun hb' => by
          obtain ⟨b1, b2, b3⟩ := e5 hb'
          refine ⟨b1, ?_, ?_⟩
          · rw [mk_gKids]
            intro z hz
            rcases List.mem_append.1 hz with hz | hz
            · exact a2 z hz
            · rw [List.mem_singleton.1 hz]; exact b2
          · rw [mk_gKids, nsum_append]
            simp only [nsum]
            omega)
        exact this
    · rw [if_neg (by simpa using hlt)]
      exact ⟨_, _, rfl, h3, h4, h5, rfl, rfl, rfl, by omega, h7⟩
theorem fill : ∀ (k d : Nat) (c : GL04Fill) (x : GTerm), c.gList.length ≤ 1048576 → AllT c.gList → AnyT x → d ≤ 41 → maxLen + (42 - d) < k → c.gBad = false → 0 ≤ c.gLeft → c.gLeft ≤ 400 →
    ∃ c' y, pspec_l04Fill_fill_d k c x (d : Int) = some (c', y) ∧ c'.gList = c.gList ∧ c'.gLeft ≤ c.gLeft ∧ -1 ≤ c'.gLeft ∧ (c'.gBad = false → 0 ≤ c'.gLeft ∧ y.ok ∧ (1 + nT y : Int) ≤ c.gLeft - c'.gLeft)
  | 0, d, c, x, hl, ha, hx, hd, hk, hb, h0, h4 => by omega
  | k + 1, d, c, x, hl, ha, hx, hd, hk, hb, h0, h4 => by
    have hM := maxLen_eq
    have hw : wr.i64 (c.gLeft - 1) = c.gLeft - 1 := wr_i64 (by omega) (by omega)
    have bad : ∃ c' y, pspec_l04Fill_fill_d_J1 k (pspec_l04Fill_fill_d k) c x (d : Int) true = some (c', y) ∧ c'.gList = c.gList ∧ c'.gLeft ≤ c.gLeft ∧ -1 ≤ c'.gLeft ∧ (c'.gBad = false → 0 ≤ c'.gLeft ∧ y.ok ∧ (1 + nT y : Int) ≤ c.gLeft - c'.gLeft) := by
      unfold pspec_l04Fill_fill_d_J1
      rw [if_pos rfl, hw]
      exact ⟨_, _, rfl, rfl, by show c.gLeft - 1 ≤ c.gLeft; omega, by show -1 ≤ c.gLeft - 1; omega, fun h => by cases h⟩
    have badJ : ∀ z, ∃ c' y, pspec_l04Fill_fill_d_J1 k (pspec_l04Fill_fill_d k) c z (d : Int) true = some (c', y) ∧ c'.gList = c.gList ∧ c'.gLeft ≤ c.gLeft ∧ -1 ≤ c'.gLeft ∧ (c'.gBad = false → 0 ≤ c'.gLeft ∧ y.ok ∧ (1 + nT y : Int) ≤ c.gLeft - c'.gLeft) := by
      intro z
      unfold pspec_l04Fill_fill_d_J1
      rw [if_pos rfl, hw]
      exact ⟨_, _, rfl, rfl, by show c.gLeft - 1 ≤ c.gLeft; omega, by show -1 ≤ c.gLeft - 1; omega, fun h => by cases h⟩
    unfold pspec_l04Fill_fill_d
    obtain ⟨y, hy, e1, _, _⟩ := walk3 (k := k) (by omega) hl (Q := AnyT) ha hx
    rw [e1]
    simp only [obs]
    rw [if_neg (by rw [hb]; decide), hw]
    by_cases c1 : c.gLeft - 1 < 0
    · rw [if_pos (by simpa using c1)]
      exact badJ y
    rw [if_neg (by simpa using c1)]
    by_cases c2 : (d : Int) > 40
    · rw [if_pos (by simpa using c2)]
      exact badJ y
    rw [if_neg (by simpa using c2), l03One hy.1 (by omega)]
    simp only [obs]
    cases ho : one y with
    | false =>
      exact badJ y
    | true =>
      obtain ⟨o1, o2, o3, o4⟩ := one_ok ho
      have hwd : wr.i64 ((d : Int) + 1) = (d : Int) + 1 := wr_i64 (by omega) (by omega)
      unfold pspec_l04Fill_fill_d_J1
      rw [if_neg (by decide), hw]
      have hdd : ((d + 1 : Nat) : Int) = (d : Int) + 1 := by omega
      obtain ⟨o', c', e2, g1, g2, g3, g4, g5, g6, g7, g8⟩ := fill_L2 (k := k) (f := pspec_l04Fill_fill_d k) (x := y) (d := (d : Int)) (l := c.gList) (any_kids hy) hwd (L0 := c.gLeft - 1) (by omega)
        (fun c2 z hz q1 q2 q3 q4 => by
          have := fill k (d + 1) c2 z (by rw [q1]; exact hl) (by rw [q1]; exact ha) (any_kid hy hz) (by omega) (by omega) q2 q3 q4
          rw [hdd, q1] at this
          exact this) k 0 (GTerm.mk y.gKind y.gName y.gNum []) (GL04Fill.mk c.gList (c.gLeft - 1) c.gBad) (by omega) (by have := any_kids hy; omega) rfl (by show -1 ≤ c.gLeft - 1; omega) (Int.le_refl _) (by simp [mk_gKids]) (fun _ => ⟨(by show 0 ≤ c.gLeft - 1; omega), (fun z hz => by rw [mk_gKids] at hz; cases hz), (by show (nsum nT ([] : List GTerm) : Int) + (c.gLeft - 1) ≤ c.gLeft - 1; simp [nsum])⟩)
      rw [show ((0 : Nat) : Int) = 0 from rfl] at e2
      rw [e2]
      refine ⟨c', o', rfl, g1, by omega, g2, fun hb' => ?_⟩
      obtain ⟨b1, b2, b3⟩ := g8 hb'
      rw [mk_gKind] at g4
      rw [mk_gName] at g5
      rw [mk_gNum] at g6
      have hn := nT_kids o'
      refine ⟨b1, ?_, by omega⟩
      have e : o' = GTerm.mk o'.gKind o'.gName o'.gNum o'.gKids := by cases o'; rfl
      rw [e]
      exact ok_mk (by omega) (by rw [g5]; omega) (by omega) (by omega) b2
theorem filled {k : Nat} (hk : maxLen + 1000000 < k) {l : List GTerm} (hl : l.length ≤ 1048576) (ha : AllT l) {x : GTerm} (hx : AnyT x) : ∃ y b, pspec_l04Filled_d k l x = some (y, b) ∧ (b = true → y.ok ∧ nT y ≤ 400) := by
  have hM := maxLen_eq
  unfold pspec_l04Filled_d
  obtain ⟨c', y, e, _, _, h1, h2⟩ := fill k 1 (GL04Fill.mk l 400 false) x hl ha hx (by decide) (Nat.lt_of_le_of_lt (Nat.add_le_add_left (by decide) _) hk) rfl (by show (0 : Int) ≤ 400; omega) (by show (400 : Int) ≤ 400; omega)
  rw [show ((1 : Nat) : Int) = 1 from rfl] at e
  rw [e]
  simp only [obs]
  cases hb : c'.gBad with
  | true => rw [if_pos rfl]; exact ⟨_, _, rfl, fun h => by cases h⟩
  | false =>
    rw [if_neg (by decide)]
    obtain ⟨b1, b2, b3⟩ := h2 hb
    have b3 : (1 + nT y : Int) ≤ 400 - c'.gLeft := b3
    exact ⟨_, _, rfl, fun _ => ⟨b2, by omega⟩⟩
theorem varsOf {k : Nat} (hk : maxLen + 1000000 < k) {x : GTerm} (hx : nT x ≤ 400) : ∃ l, pspec_VarsOf k x = some l ∧ l.length ≤ 1000 := by
  unfold pspec_VarsOf
  have hM := maxLen_eq
  have h1 : maxLen + 2 * nT x + 2 < k := by
    have : 2 * nT x + 2 ≤ 1000000 := by omega
    omega
  rw [l03Vars k x h1 (by omega) [] (by simp; omega)]
  refine ⟨_, rfl, ?_⟩
  have := uniq_len (vs x) []
  have := vs_len x
  simp at *
  omega
theorem link {k : Nat} {u : GL04Uni} {n : Int} {x : GTerm} (hl : u.gList.length ≤ 1048576) (ha : AllT u.gList) (hx : AnyT x) :
    ∃ u' b, pspec_l04Uni_link k u n x = some (u', b) ∧ u'.gList.length = u.gList.length ∧ AllT u'.gList ∧ u'.gPairs = u.gPairs := by
  unfold pspec_l04Uni_link
  rw [l01In, wr_i64 (by omega) (by omega)]
  simp only [obs]
  by_cases h : 0 ≤ n ∧ n ≤ (u.gList.length : Int) - 1
  · rw [inR_t h, if_neg (by decide)]
    obtain ⟨i, rfl⟩ := Int.eq_ofNat_of_zero_le h.1
    have hi : i < u.gList.length := by omega
    rw [at_lt hi]
    simp only [obs]
    exact ⟨_, _, rfl, by simp, ha.set _ hx, rfl⟩
  · rw [inR_f h, if_pos (by decide)]
    exact ⟨_, _, rfl, rfl, ha, rfl⟩
theorem bind_ {k : Nat} (hk : maxLen + 1000000 < k) {u : GL04Uni} {n : Int} {x : GTerm} (hl : u.gList.length ≤ 1048576) (ha : AllT u.gList) (hx : AnyT x) :
    ∃ u' b, pspec_l04Uni_bind k u n x = some (u', b) ∧ u'.gList.length = u.gList.length ∧ AllT u'.gList ∧ u'.gPairs = u.gPairs := by
  unfold pspec_l04Uni_bind
  obtain ⟨y, b, e1, e2⟩ := filled hk hl ha hx
  rw [e1]
  simp only [obs]
  cases b with
  | false => rw [if_pos (by decide)]; exact ⟨_, _, rfl, rfl, ha, rfl⟩
  | true =>
    rw [if_neg (by decide)]
    obtain ⟨hy, hn⟩ := e2 rfl
    rw [l01In, wr_i64 (by omega) (by omega)]
    simp only [obs]
    by_cases h : 0 ≤ n ∧ n ≤ (u.gList.length : Int) - 1
    · rw [inR_t h, if_neg (by decide)]
      obtain ⟨l, e3, e4⟩ := varsOf hk hn
      rw [e3]
      simp only [obs]
      have hM := maxLen_eq
      rw [l03Has n (by omega) (Nat.lt_of_le_of_lt (Nat.le_add_right _ _) hk)]
      simp only [obs]
      split
      · exact ⟨_, _, rfl, rfl, ha, rfl⟩
      · obtain ⟨i, rfl⟩ := Int.eq_ofNat_of_zero_le h.1
        have hi : i < u.gList.length := by omega
        rw [at_lt hi]
        simp only [obs]
        exact ⟨_, _, rfl, by simp, ha.set _ hx, rfl⟩
    · rw [inR_f h, if_pos (by decide)]
      exact ⟨_, _, rfl, rfl, ha, rfl⟩
/-- What comes of making two terms the same. -/
def Did (n : Nat) (p : Int) (r : Option (GL04Uni × Bool)) : Prop := ∃ u b, r = some (u, b) ∧ u.gList.length = n ∧ AllT u.gList ∧ p ≤ u.gPairs ∧ u.gPairs ≤ 2001 ∧ (b = true → u.gPairs ≤ 2000)
theorem same_L2 {k : Nat} {f : GL04Uni → GTerm → GTerm → Option (GL04Uni × Bool)} {x y : List GTerm × GTerm} {n : Nat} {p : Int} (hx : AnyT x.2) (hy : AnyT y.2) (hxy : x.2.gKids.length = y.2.gKids.length)
    (hf : ∀ (u : GL04Uni) (a b : GTerm), AnyT a → AnyT b → u.gList.length = n → AllT u.gList → p ≤ u.gPairs → u.gPairs ≤ 2000 → Did n p (f u a b)) :
    ∀ (m j : Nat) (u : GL04Uni), j ≤ x.2.gKids.length → x.2.gKids.length - j < m → u.gList.length = n → AllT u.gList → p ≤ u.gPairs → u.gPairs ≤ 2000 →
      (∃ u', pspec_l04Uni_same_L2 k f x y m (j : Int) u = some (.done u') ∧ u'.gList.length = n ∧ AllT u'.gList ∧ p ≤ u'.gPairs ∧ u'.gPairs ≤ 2000) ∨
      (∃ r, pspec_l04Uni_same_L2 k f x y m (j : Int) u = some (.ret r) ∧ r.1.gList.length = n ∧ AllT r.1.gList ∧ p ≤ r.1.gPairs ∧ r.1.gPairs ≤ 2001 ∧ r.2 = false)
  | 0, j, u, h1, h2, h3, h4, h5, h6 => by omega
  | m + 1, j, u, h1, h2, h3, h4, h5, h6 => by
    have hm : x.2.gKids.length ≤ maxLen := by have := any_kids hx; rw [maxLen_eq]; omega
    unfold pspec_l04Uni_same_L2
    by_cases hlt : j < x.2.gKids.length
    · rw [if_pos (by simpa using hlt), at_lt hlt, at_lt (l := y.2.gKids) (by omega)]
      simp only [obs]
      obtain ⟨u', b, e1, g1, g2, g3, g4, g5⟩ := hf u x.2.gKids[j] (y.2.gKids[j]'(by omega)) (any_kid hx (List.getElem_mem hlt)) (any_kid hy (List.getElem_mem (by omega))) h3 h4 h5 h6
      rw [e1]
      simp only [obs]
      cases b with
      | false => rw [if_pos (by decide)]; exact .inr ⟨_, rfl, g1, g2, g3, g4, rfl⟩
      | true =>
        rw [if_neg (by decide), wr_succ hlt hm]
        exact same_L2 hx hy hxy hf m (j + 1) u' (by omega) (by omega) g1 g2 g3 (g5 rfl)
    · rw [if_neg (by simpa using hlt)]
      exact .inl ⟨_, rfl, h3, h4, h5, h6⟩
theorem same : ∀ (k : Nat) (u : GL04Uni) (x y : GTerm), u.gList.length ≤ 1048576 → AllT u.gList → AnyT x → AnyT y → 0 ≤ u.gPairs → u.gPairs ≤ 2000 → maxLen + 1000000 + (2002 - u.gPairs.toNat) < k →
    Did u.gList.length (u.gPairs + 1) (pspec_l04Uni_same k u x y)
  | 0, u, x, y, hl, ha, hx, hy, h0, h1, hk => absurd hk (Nat.not_lt_zero _)
  | k + 1, u, x, y, hl, ha, hx, hy, h0, h1, hk => by
    have hw : wr.i64 (u.gPairs + 1) = u.gPairs + 1 := wr_i64 (by omega) (by omega)
    obtain ⟨A, hA⟩ : ∃ A, A = maxLen + 1000000 := ⟨_, rfl⟩
    rw [← hA] at hk
    have hk1 : maxLen + 1000000 < k := by rw [← hA]; omega
    have hk0 : maxLen < k := Nat.lt_of_le_of_lt (Nat.le_add_right _ _) hk1
    unfold pspec_l04Uni_same
    rw [hw]
    by_cases c1 : u.gPairs + 1 > 2000
    · rw [if_pos (by simpa using c1)]
      exact ⟨_, _, rfl, rfl, ha, Int.le_refl _, (by show u.gPairs + 1 ≤ 2001; omega), fun h => by cases h⟩
    rw [if_neg (by simpa using c1)]
    obtain ⟨x', hx', _, _, e1⟩ := walk3 hk0 hl (Q := AnyT) ha hx
    rw [e1]
    simp only [obs]
    obtain ⟨y', hy', _, _, e2⟩ := walk3 hk0 hl (Q := AnyT) ha hy
    rw [e2]
    simp only [obs]
    have stay : ∀ b, Did u.gList.length (u.gPairs + 1) (some (GL04Uni.mk u.gList (u.gPairs + 1), b)) := fun b =>
      ⟨_, _, rfl, rfl, ha, Int.le_refl _, (by show u.gPairs + 1 ≤ 2001; omega), fun _ => (by show u.gPairs + 1 ≤ 2000; omega)⟩
    have lk : ∀ n z, AnyT z → Did u.gList.length (u.gPairs + 1) ((pspec_l04Uni_link k (GL04Uni.mk u.gList (u.gPairs + 1)) n z).bind fun r => some (r.1, r.2)) := fun n z hz => by
      obtain ⟨u', b, e, q1, q2, q3⟩ := link (k := k) (u := GL04Uni.mk u.gList (u.gPairs + 1)) (n := n) hl ha hz
      rw [e]
      have q3 : u'.gPairs = u.gPairs + 1 := q3
      exact ⟨u', b, rfl, q1, q2, by omega, by omega, fun _ => by omega⟩
    have bd : ∀ n z, AnyT z → Did u.gList.length (u.gPairs + 1) ((pspec_l04Uni_bind k (GL04Uni.mk u.gList (u.gPairs + 1)) n z).bind fun r => some (r.1, r.2)) := fun n z hz => by
      obtain ⟨u', b, e, q1, q2, q3⟩ := bind_ (k := k) hk1 (u := GL04Uni.mk u.gList (u.gPairs + 1)) (n := n) hl ha hz
      rw [e]
      have q3 : u'.gPairs = u.gPairs + 1 := q3
      exact ⟨u', b, rfl, q1, q2, by omega, by omega, fun _ => by omega⟩
    have J : ∀ g, Did u.gList.length (u.gPairs + 1) (pspec_l04Uni_same_J1 k (pspec_l04Uni_same k) (u.gList, x') (u.gList, y') u g) := fun g => by
      unfold pspec_l04Uni_same_J1
      rw [hw]
      simp only []
      split
      · split
        · exact stay true
        · split
          · exact lk _ _ hy'
          · exact lk _ _ hx'
      · split
        · exact bd _ _ hy'
        · split
          · exact bd _ _ hx'
          · split
            · exact stay false
            · split
              · exact stay false
              · split
                · exact stay false
                · split
                  · exact stay false
                  · rename_i hkids
                    have hxy : x'.gKids.length = y'.gKids.length := by
                      have h : (x'.gKids.length : Int) = y'.gKids.length := by simpa using hkids
                      omega
                    have hkk := any_kids hx'
                    rcases same_L2 (k := k) (f := pspec_l04Uni_same k) (x := (u.gList, x')) (y := (u.gList, y')) (n := u.gList.length) (p := u.gPairs + 1) hx' hy' hxy (fun v a b qa qb v1 v2 v3 v4 => by
                      obtain ⟨u2, b2, e, q1, q2, q3, q4, q5⟩ := same k v a b (by omega) v2 qa qb (by omega) v4 (by rw [← hA]; omega)
                      exact ⟨u2, b2, e, by omega, q2, by omega, q4, q5⟩) k 0 (GL04Uni.mk u.gList (u.gPairs + 1)) (Nat.zero_le _) (by have hM := maxLen_eq; show x'.gKids.length - 0 < k; omega) rfl ha (Int.le_refl _) (by show u.gPairs + 1 ≤ 2000; omega) with ⟨u', e, q1, q2, q3, q4⟩ | ⟨r, e, q1, q2, q3, q4, q5⟩
                    · rw [show ((0 : Nat) : Int) = 0 from rfl] at e
                      rw [e]
                      exact ⟨_, _, rfl, q1, q2, q3, by omega, fun _ => q4⟩
                    · rw [show ((0 : Nat) : Int) = 0 from rfl] at e
                      rw [e]
                      exact ⟨r.1, r.2, rfl, q1, q2, q3, q4, fun h => by rw [q5] at h; cases h⟩
    split
    · exact J _
    · exact J _
theorem unify {k : Nat} (hk : maxLen + 1100000 < k) {l : List GTerm} (hl : l.length ≤ 1000) (ha : AllT l) {x y : GTerm} (hx : AnyT x) (hy : AnyT y) : ∃ l' b, pspec_l04Unify k l x y = some (l', b) ∧ l'.length = l.length ∧ AllT l' := by
  unfold pspec_l04Unify
  obtain ⟨u, b, e, q1, q2, _⟩ := same k (GL04Uni.mk l 0) x y (by show l.length ≤ 1048576; omega) ha hx hy (Int.le_refl _) (by show (0 : Int) ≤ 2000; omega) (by
    show maxLen + 1000000 + (2002 - (0 : Int).toNat) < k
    refine Nat.lt_of_le_of_lt ?_ hk
    rw [Nat.add_assoc]
    exact Nat.add_le_add_left (by decide) _)
  rw [e]
  exact ⟨_, _, rfl, q1, q2⟩
theorem unifyRaw {k : Nat} (hk : maxLen + 1100000 < k) {b : GBinds} (hl : b.gList.length ≤ 1000) (ha : AllT b.gList) {x y : GTerm} (hx : AnyT x) (hy : AnyT y) :
    ∃ c g, pspec_l04UnifyRaw k b x y = some (c, g) ∧ c.gList.length = b.gList.length ∧ AllT c.gList := by
  have hM := maxLen_eq
  have J : ∀ g (c : GBinds), c.gList.length = b.gList.length → AllT c.gList → ∃ c' g', pspec_l04UnifyRaw_J1 k b g c = some (c', g') ∧ c'.gList.length = b.gList.length ∧ AllT c'.gList := by
    intro g c h1 h2
    unfold pspec_l04UnifyRaw_J1
    split
    · rw [if_pos (by simp; omega)]; exact ⟨_, _, rfl, rfl, ha⟩
    · exact ⟨_, _, rfl, h1, h2⟩
  have w : ∀ {z : GTerm}, AnyT z → maxLen + 2 * nT z + 2 < k := fun {z} h => by
    have h2 := h.2
    have : 2 * nT z + 2 ≤ 1100000 := by omega
    omega
  unfold pspec_l04UnifyRaw
  rw [if_pos (by simp; omega), spec_TermOk (w hx) hx.1, spec_TermOk (w hy) hy.1]
  simp only [obs]
  split
  · exact J _ _ rfl ha
  · split
    · exact J _ _ rfl ha
    · obtain ⟨l', g, e, q1, q2⟩ := unify hk hl ha hx hy
      rw [e]
      simp only [obs]
      exact J _ _ q1 q2
theorem nsum_bound {l : List GTerm} (h : AllT l) : nsum nT l ≤ 111 * l.length := by
  induction l with
  | nil => simp [nsum]
  | cons x l ih =>
    have h1 := (h x (List.mem_cons_self ..)).2
    have h2 := ih (fun z hz => h z (List.mem_cons_of_mem _ hz))
    simp only [nsum, List.length_cons]
    omega
theorem dBinds : @pspec_l34Binds_d = @pspec_l34Binds := by kernel_rfl
theorem dNew : @pspec_BindsNew_d = @pspec_BindsNew := by kernel_rfl
theorem dAny : @pspec_l03Any_d = @pspec_l03Any := by kernel_rfl
theorem unifyD {k : Nat} (hk : maxLen + 1100000 < k) {b : GBinds} (hl : b.gList.length ≤ 1000) (ha : AllT b.gList) {x y : GTerm} (hx : AnyT x) (hy : AnyT y) :
    ∃ c g, pspec_Unify_d k b x y = some (c, g) ∧ c.gList.length = b.gList.length ∧ AllT c.gList := by
  have hM := maxLen_eq
  obtain ⟨c, g, e, q1, q2⟩ := unifyRaw hk hl ha hx hy
  unfold pspec_Unify_d
  rw [e, dBinds]
  simp only [obs]
  unfold pspec_l34Binds
  have hn := nsum_bound q2
  have hn2 : nsum nT c.gList ≤ 111000 := by omega
  rw [l34Terms (by
    have : 2 * nsum nT c.gList + 2 ≤ 1100000 := by omega
    omega) (by omega)]
  exact ⟨_, _, rfl, q1, q2⟩
/-- A number in its range, or the error. -/
def rng (x : Int) : Int × Int := if -999999999 ≤ x ∧ x ≤ 999999999 then (x, 0) else (0, 3)

theorem l10Range (k : Nat) (x : Int) : pspec_l10Range k x = some (rng x) := by
  unfold pspec_l10Range rng
  rw [l01In]
  simp only [Option.bind_some]
  by_cases h : -999999999 ≤ x ∧ x ≤ 999999999
  · rw [inR_t h, if_pos h]; rfl
  · rw [inR_f h, if_neg h]; rfl

theorem eval_J4 (k : Nat) (f : List GTerm → GTerm → Int → Option (Int × Int)) (x : Int) : pimpl_eval_J4 k f x = some (rng x) := by
  unfold pimpl_eval_J4 rng
  rw [within]
  simp only [Option.bind_some]
  by_cases h : -999999999 ≤ x ∧ x ≤ 999999999
  · rw [inR_t h, if_pos h]; rfl
  · rw [inR_f h, if_neg h]; rfl

theorem evalBoth : ∀ (k n : Nat) (l : List GTerm) (x : GTerm), l.length ≤ 1048576 → n ≤ 41 → maxLen + (42 - n) < k → ∃ r, pspec_l10Eval k l x (n : Int) = some r ∧ pimpl_eval k l x (n : Int) = some r
  | 0, n, l, x, hl, hn, hk => by omega
  | k + 1, n, l, x, hl, hn, hk => by
    have ih : n ≤ 40 → ∀ y, ∃ r, pspec_l10Eval k l y (wr.i64 ((n : Int) + 1)) = some r ∧ pimpl_eval k l y (wr.i64 ((n : Int) + 1)) = some r := by
      intro h y
      have hs : wr.i64 ((n : Int) + 1) = ((n + 1 : Nat) : Int) := by rw [wr_i64 (by omega) (by omega)]; omega
      rw [hs]
      exact evalBoth k (n + 1) l y hl (by omega) (by omega)
    unfold pspec_l10Eval pimpl_eval
    obtain ⟨y, h1, h2⟩ := walk (k := k) (by omega) hl x
    rw [h1, h2]
    simp only [Option.bind_some, l10Range, within]
    obtain ⟨kd, nm, nu, kids⟩ := y
    simp only [GTerm.gKind, GTerm.gName, GTerm.gNum, GTerm.gKids]
    by_cases c1 : kd = 1
    · subst c1; exact ⟨(0, 1), rfl, rfl⟩
    have d1 : (kd == 1) = false := by simp [c1]
    by_cases c3 : kd = 3
    · subst c3
      refine ⟨rng nu, rfl, ?_⟩
      unfold rng
      by_cases h : -999999999 ≤ nu ∧ nu ≤ 999999999
      · simp only [inR_t h, if_pos h]; rfl
      · simp only [inR_f h, if_neg h]; rfl
    have d3 : (kd == 3) = false := by simp [c3]
    simp only [d1, d3, Bool.false_eq_true, if_false]
    by_cases hn40 : n ≤ 40
    · have ih := ih hn40
      have hd : decide ((n : Int) > 40) = false := by simp; omega
      simp only [hd, Bool.false_eq_true, if_false]
      by_cases c4 : kd = 4
      · subst c4
        unfold pspec_l03Is pspec_l10Sign pspec_l10Eval_J1 pimpl_eval_J1 pimpl_isStruct pimpl_eval_J2 pimpl_eval_J3 pspec_l10Two
        simp only [GTerm.gKind, GTerm.gName, GTerm.gNum, GTerm.gKids, l10Range, eval_J4]
        match kids with
        | [] =>
          have q1' : ((([] : List GTerm).length : Int) == 1) = false := rfl
          have q2' : ((([] : List GTerm).length : Int) == 2) = false := rfl
          refine ⟨(0, 2), ?_, ?_⟩
          · by_cases hm : sEq nm (bs [45]) = true <;> simp [hm]
          · by_cases hm : sEq nm (bs [45]) = true <;> simp [hm]
        | [a] =>
          obtain ⟨r, e1, e2⟩ := ih a
          by_cases hm : sEq nm (bs [45]) = true
          · have g1 : at' [a] 0 = some a := rfl
            simp [hm, g1, e1, e2]
            by_cases hr : r.2 = 0
            · simp [hr]
            · simp [hr]
          · have hm' : sEq nm (bs [45]) = false := by simpa using hm
            simp [hm']
        | [a, b] =>
          obtain ⟨r, e1, e2⟩ := ih a
          obtain ⟨s, e3, e4⟩ := ih b
          have g1 : at' [a, b] 0 = some a := rfl
          have g2 : at' [a, b] 1 = some b := rfl
          by_cases p1 : sEq nm (bs [43]) = true
          · simp [p1, g1, g2, e1, e2, e3, e4]
            by_cases hr : r.2 = 0 <;> by_cases hs : s.2 = 0 <;> by_cases hm : sEq nm (bs [45]) = true <;> simp [hr, hs, hm]
          by_cases p2 : sEq nm (bs [45]) = true
          · simp [p1, p2, g1, g2, e1, e2, e3, e4]
            by_cases hr : r.2 = 0 <;> by_cases hs : s.2 = 0 <;> simp [hr, hs]
          by_cases p3 : sEq nm (bs [42]) = true
          · simp [p1, p2, p3, g1, g2, e1, e2, e3, e4]
            by_cases hr : r.2 = 0 <;> by_cases hs : s.2 = 0 <;> simp [hr, hs]
          by_cases p4 : sEq nm (bs [47, 47]) = true
          · simp [p1, p2, p3, p4, g1, g2, e1, e2, e3, e4]
            by_cases hr : r.2 = 0 <;> by_cases hs : s.2 = 0 <;> by_cases hz : s.1 = 0 <;> simp [hr, hs, hz]
            exact ⟨_, _, ⟨rfl, rfl⟩, rfl⟩
          · simp [p1, p2, p3, p4]
        | a :: b :: c :: rest =>
          have q1 : ((a :: b :: c :: rest).length : Int) ≠ 1 := by simp; omega
          have q2 : ((a :: b :: c :: rest).length : Int) ≠ 2 := by simp; omega
          have q1' : (((a :: b :: c :: rest).length : Int) == 1) = false := by rw [beq_eq_false_iff_ne]; exact q1
          have q2' : (((a :: b :: c :: rest).length : Int) == 2) = false := by rw [beq_eq_false_iff_ne]; exact q2
          refine ⟨(0, 2), ?_, ?_⟩
          · by_cases hm : sEq nm (bs [45]) = true <;> simp only [hm, q1', q2', if_true, if_false, Bool.false_eq_true, Option.bind_some] <;> rfl
          · by_cases hm : sEq nm (bs [45]) = true <;> simp only [hm, q1', q2', if_true, if_false, Bool.false_eq_true, Option.bind_some, Bool.not_false] <;> rfl
      · have c4' : (kd == 4) = false := by simpa using c4
        have c4'' : (kd != 4) = true := by simpa using c4
        unfold pspec_l03Is pspec_l10Eval_J1
        simp only [GTerm.gKind, c4', c4'', Bool.false_eq_true, if_false, if_true, Option.bind_some]
        exact ⟨(0, 2), rfl, rfl⟩
    · have hd : decide ((n : Int) > 40) = true := by simp; omega
      simp only [hd, if_true]
      split <;> exact ⟨_, rfl, rfl⟩

theorem eval {k : Nat} (hk : maxLen + 42 < k) {x : GBinds} (hx : x.gList.length ≤ 1048576) (t : GTerm) : ∃ r, pspec_Eval k x t = some r ∧ pimpl_Eval k x t = some r := by
  unfold pspec_Eval pimpl_Eval
  obtain ⟨r, h1, h2⟩ := evalBoth k 1 x.gList t hx (by omega) (by omega)
  rw [show ((1 : Nat) : Int) = 1 from rfl] at h1 h2
  rw [h1, h2]
  exact ⟨_, rfl, rfl⟩
theorem places_L1 {k : Nat} : ∀ (m j : Nat) (l : List Int) (c : GL01Cur), CurOk c → j ≤ 12 → 12 - j < m → l.length = j → (∀ x ∈ l, 0 ≤ x ∧ x ≤ 9999) → ∃ l', pspec_DrawPlaces_L1 k m l (j : Int) c = some (.done l') ∧ l'.length = 12 ∧ ∀ x ∈ l', 0 ≤ x ∧ x ≤ 9999
  | 0, j, l, c, hc, h1, h2, h3, h4 => by omega
  | m + 1, j, l, c, hc, h1, h2, h3, h4 => by
    unfold pspec_DrawPlaces_L1
    by_cases hlt : j < 12
    · rw [if_pos (by simp; omega)]
      obtain ⟨c1, v, e1, g1, g2, g3, _⟩ := l01Below hc k 10000
      rw [e1]
      simp only [obs]
      rw [if_pos (by simp; omega), show wr.i64 ((j : Int) + 1) = ((j + 1 : Nat) : Int) by rw [wr_i64 (by omega) (by omega)]; omega]
      refine places_L1 m (j + 1) (l ++ [v]) c1 g1 (by omega) (by omega) (by simp; omega) (fun x hx => ?_)
      rcases List.mem_append.1 hx with hx | hx
      · exact h4 x hx
      · rw [List.mem_singleton.1 hx]
        have := g3 (by decide)
        omega
    · rw [if_neg (by simp; omega)]
      exact ⟨_, rfl, by omega, h4⟩
theorem places {k : Nat} {a : List Int} (hl : a.length ≤ 1048576) (hk : maxLen < k) : ∃ p q l, pspec_DrawPlaces k a = some (p :: q :: l) ∧ (0 ≤ p ∧ p ≤ 9999) ∧ (0 ≤ q ∧ q ≤ 9999) := by
  have hM := maxLen_eq
  unfold pspec_DrawPlaces
  obtain ⟨c, e1, g1⟩ := l01New hl hk
  obtain ⟨c2, v, e2, g2, _⟩ := l01Byte g1 k
  obtain ⟨l, e3, g3, g4⟩ := places_L1 (k := k) k 0 [] c2 g2 (by omega) (by omega) rfl (by simp)
  rw [show ((0 : Nat) : Int) = 0 from rfl] at e3
  rw [e1]
  simp only [obs]
  rw [e2]
  simp only [obs]
  rw [e3]
  match l, g3, g4 with
  | p :: q :: l, _, g4 => exact ⟨p, q, l, rfl, g4 p (by simp), g4 q (by simp)⟩
theorem new4 {k : Nat} : ∃ b, pspec_BindsNew_d k 4 = some b ∧ b.gList.length = 4 ∧ AllT b.gList := by
  rw [dNew]
  unfold pspec_BindsNew pspec_BindsNew_J1
  rw [if_neg (by decide), if_neg (by decide), if_pos (by decide)]
  refine ⟨_, rfl, by simp, fun z hz => ?_⟩
  rw [List.eq_of_mem_replicate hz]
  refine ⟨ok_mk (by omega) (by decide) (by omega) (by simp) (fun x hx => by cases hx), ?_⟩
  rw [nT_kids, mk_gKids]
  simp [nsum]
theorem binds_L1 {k : Nat} (hk : maxLen + 1100000 < k) (hk2 : 1000000 < k - maxLen) : ∀ (m j : Nat) (b : GBinds) (c : GL01Cur), j ≤ 4 → 4 - j < m → CurOk c → b.gList.length = 4 → AllT b.gList →
    ∃ b' c', pspec_l04Binds_d_L1 k m (j : Int) b c = some (.done (b', c')) ∧ CurOk c' ∧ b'.gList.length = 4 ∧ AllT b'.gList
  | 0, j, b, c, h1, h2, h3, h4, h5 => by omega
  | m + 1, j, b, c, h1, h2, h3, h4, h5 => by
    unfold pspec_l04Binds_d_L1
    obtain ⟨c1, v, e1, g1, g2, g3, _⟩ := l01Below h3 k 4
    rw [e1]
    simp only [obs]
    have := g3 (by decide)
    by_cases q : (j : Int) < v
    · rw [if_pos (by simpa using q)]
      obtain ⟨c2, x, e2, g4, g5⟩ := l03Term g1 hk2
      rw [e2]
      simp only [obs]
      obtain ⟨c3, y, e3, g6, g7⟩ := l03Term g4 hk2
      rw [e3]
      simp only [obs]
      obtain ⟨b', g, e4, q1, q2⟩ := unifyD hk (b := b) (by omega) h5 g5.any g7.any
      rw [e4]
      simp only [obs]
      rw [show wr.i64 ((j : Int) + 1) = ((j + 1 : Nat) : Int) by rw [wr_i64 (by omega) (by omega)]; omega]
      exact binds_L1 hk hk2 m (j + 1) b' c3 (by omega) (by omega) g6 (by omega) q2
    · rw [if_neg (by simpa using q)]
      exact ⟨_, _, rfl, g1, h4, h5⟩
theorem binds {k : Nat} (hk : maxLen + 1100000 < k) (hk2 : 1000000 < k - maxLen) {c : GL01Cur} (hc : CurOk c) : ∃ c' b, pspec_l04Binds_d k c = some (c', b) ∧ CurOk c' ∧ b.gList.length = 4 ∧ AllT b.gList := by
  unfold pspec_l04Binds_d
  obtain ⟨b0, e0, h1, h2⟩ := new4 (k := k)
  rw [e0]
  simp only [obs]
  obtain ⟨b, c', e1, g1, g2, g3⟩ := binds_L1 hk hk2 k 0 b0 c (by omega) (by omega) hc h1 h2
  rw [show ((0 : Nat) : Int) = 0 from rfl] at e1
  rw [e1]
  exact ⟨_, _, rfl, g1, g2, g3⟩
theorem any4 {k : Nat} (hk : maxLen + 1100000 < k) (hk2 : 1000000 < k - maxLen) {c : GL01Cur} (hc : CurOk c) : ∃ c' b, pspec_l04Any k c = some (c', b) ∧ b.gList.length ≤ 4 := by
  unfold pspec_l04Any
  obtain ⟨c1, v, e1, g1, _⟩ := l01Below hc k 10
  rw [e1]
  simp only [obs]
  obtain ⟨c2, b, e2, g2, g3, g4⟩ := binds hk hk2 g1
  rw [e2]
  simp only [obs]
  split
  · unfold pspec_l03Var_d
    simp only [obs]
    rw [show (0 : Int) = ((0 : Nat) : Int) from rfl, at_lt (by omega)]
    simp only [obs]
    rw [show (1 : Int) = ((1 : Nat) : Int) from rfl, at_lt (by simp; omega)]
    simp only [obs]
    exact ⟨_, _, rfl, by simp; omega⟩
  · split
    · rw [dAny]
      obtain ⟨c3, t, e3, g5, g6⟩ := l03Any g2 hk2
      rw [e3]
      simp only [obs]
      rw [show (2 : Int) = ((2 : Nat) : Int) from rfl, at_lt (by omega)]
      simp only [obs]
      exact ⟨_, _, rfl, by simp; omega⟩
    · split
      · rw [if_pos (by omega)]
        exact ⟨_, _, rfl, by simp; omega⟩
      · exact ⟨_, _, rfl, by omega⟩
/-- What is read. -/
def texts : List ByteArray := [(bs [49, 32, 43, 32, 50, 32, 42, 32, 51]), (bs [55, 32, 47, 47, 32, 45, 50]), (bs [45, 32, 40, 52, 41]), (bs [88, 32, 43, 32, 49]), (bs [97, 32, 43, 32, 88]), (bs [57, 57, 57, 57, 57, 57, 57, 57, 57, 32, 43, 32, 49]), (bs [53, 32, 47, 47, 32, 48]), (bs [49, 32, 45, 32, 50, 32, 45, 32, 51]), (bs [102, 40, 49, 41]), (bs [51]), (bs [49, 32, 43, 32, 97, 32, 47, 47, 32, 48]), (bs [57, 57, 57, 57, 57, 57, 57, 57, 57, 32, 42, 32, 57, 57, 57, 57, 57, 57, 57, 57, 57])]
theorem reads (n : Nat) : (texts.all fun s => (pspec_ReadTerm (n + 100) (s ++ (bs [32, 46]))).isSome) = true := by kernel_rfl
theorem sameTerm : ∀ (k : Nat) (x : GTerm), maxLen + 2 * nT x + 2 < k → nT x ≤ Huge → pspec_SameTerm k x x = some true
  | 0, x, hw, h => by omega
  | k + 1, x, hw, h => by
    have hk := nT_kids x
    have := nsum_len nT x.gKids
    unfold pspec_SameTerm
    have e := eq2 (f := pspec_SameTerm k) (L := pspec_SameTerm_L1 k (pspec_SameTerm k) x x) (l := x.gKids) (by omega) (fun y hy => by have := nsum_mem (n := nT) hy; exact sameTerm k y (by omega) (by omega)) (fun m i => rfl) (k := k) (by omega)
    rw [if_neg (by simp), if_neg (by simp [sEq_refl]), if_neg (by simp)]
    exact e
theorem q1 : sEq (bs [43]) (bs [43]) = true := by kernel_rfl
theorem q2 : sEq (bs [42]) (bs [43]) = false := by kernel_rfl
theorem q3 : sEq (bs [42]) (bs [45]) = false := by kernel_rfl
theorem q4 : sEq (bs [42]) (bs [42]) = true := by kernel_rfl
theorem q5 : sEq (bs [47, 47]) (bs [43]) = false := by kernel_rfl
theorem q6 : sEq (bs [47, 47]) (bs [45]) = false := by kernel_rfl
theorem q7 : sEq (bs [47, 47]) (bs [42]) = false := by kernel_rfl
theorem q8 : sEq (bs [47, 47]) (bs [47, 47]) = true := by kernel_rfl
theorem ff {α : Type} {x y : α} : (if false = true then x else y) = y := if_neg (by decide)
theorem walkedS {k : Nat} {x : GTerm} (hx : (x.gKind == 1) = false) : pimpl_walked (k + 1) [] x = some x := by
  unfold pimpl_walked pimpl_walked_L1
  rw [if_pos (by decide), if_neg (by rw [hx]; decide)]
  rfl
theorem evInt {k : Nat} {n d : Int} (h : -999999999 ≤ n ∧ n ≤ 999999999) : pimpl_eval (k + 2) [] (GTerm.mk 3 (bs []) n []) d = some (n, 0) := by
  rw [pimpl_eval, walkedS (by rfl)]
  simp only [obs]
  rw [mk_gKind, if_neg (by decide), if_pos (by decide), within, mk_gNum]
  simp only [obs]
  rw [inR_t h, if_neg (by decide)]
theorem rngIn {x : Int} (h : -999999999 ≤ x ∧ x ≤ 999999999) : rng x = (x, 0) := if_pos h
theorem evTwo {k : Nat} {o : ByteArray} {a b : GTerm} {x y d : Int} (hd : wr.i64 (d + 1) = d + 1) (hd2 : d ≤ 40) (ha : pimpl_eval (k + 1) [] a (d + 1) = some (x, 0)) (hb : pimpl_eval (k + 1) [] b (d + 1) = some (y, 0)) :
    pimpl_eval_J2 (k + 1) (pimpl_eval (k + 1)) (GTerm.mk 4 o 0 [a, b]) [] d true = pimpl_eval_J3 (k + 1) (pimpl_eval (k + 1)) true (x, 0) (GTerm.mk 4 o 0 [a, b]) y := by
  unfold pimpl_eval_J2
  rw [mk_gKids, hd, show at' [a, b] 0 = some a from rfl]
  simp only [obs]
  rw [ha]
  simp only [obs]
  rw [if_neg (by decide), if_pos trivial, show at' [a, b] 1 = some b from rfl]
  simp only [obs]
  rw [hb]
  simp only [obs]
  rw [if_neg (by decide)]
theorem evAdd {k : Nat} {a b : GTerm} {x y d : Int} (hd : wr.i64 (d + 1) = d + 1) (hd2 : d ≤ 40) (ha : pimpl_eval (k + 1) [] a (d + 1) = some (x, 0)) (hb : pimpl_eval (k + 1) [] b (d + 1) = some (y, 0)) (h : -999999999 ≤ x + y ∧ x + y ≤ 999999999) :
    pimpl_eval (k + 2) [] (GTerm.mk 4 (bs [43]) 0 [a, b]) d = some (x + y, 0) := by
  have hd3 : ¬ decide (d > 40) = true := by simp; omega
  rw [pimpl_eval, walkedS (by rfl)]
  simp only [obs]
  rw [mk_gKind, mk_gKids, mk_gName, if_neg (by decide), if_neg (by decide), if_neg (by decide), if_neg hd3, if_pos (by rfl), q1, if_pos rfl]
  unfold pimpl_eval_J1
  rw [if_neg (by decide), evTwo hd hd2 ha hb]
  unfold pimpl_eval_J3
  rw [if_neg (by decide), mk_gName, q1, if_pos rfl, eval_J4, wr_i64 (by show -9223372036854775808 ≤ x + y; omega) (by show x + y ≤ 9223372036854775807; omega)]
  rw [rngIn h]
theorem evMul {k : Nat} {a b : GTerm} {x y d : Int} (hd : wr.i64 (d + 1) = d + 1) (hd2 : d ≤ 40) (ha : pimpl_eval (k + 1) [] a (d + 1) = some (x, 0)) (hb : pimpl_eval (k + 1) [] b (d + 1) = some (y, 0)) (h : -999999999 ≤ x * y ∧ x * y ≤ 999999999) :
    pimpl_eval (k + 2) [] (GTerm.mk 4 (bs [42]) 0 [a, b]) d = some (x * y, 0) := by
  have hd3 : ¬ decide (d > 40) = true := by simp; omega
  rw [pimpl_eval, walkedS (by rfl)]
  simp only [obs]
  rw [mk_gKind, mk_gKids, mk_gName, if_neg (by decide), if_neg (by decide), if_neg (by decide), if_neg hd3, if_pos (by rfl), q2, q3, q4, ff, ff, if_pos rfl]
  unfold pimpl_eval_J1
  rw [if_neg (by decide), evTwo hd hd2 ha hb]
  unfold pimpl_eval_J3
  rw [if_neg (by decide), mk_gName, q2, q3, q4, ff, ff, if_pos rfl, eval_J4]
  generalize x * y = z at h
  rw [wr_i64 (by omega) (by omega), rngIn h]
theorem evZero {k : Nat} {a b : GTerm} {x d : Int} (hd : wr.i64 (d + 1) = d + 1) (hd2 : d ≤ 40) (ha : pimpl_eval (k + 1) [] a (d + 1) = some (x, 0)) (hb : pimpl_eval (k + 1) [] b (d + 1) = some (0, 0)) :
    pimpl_eval (k + 2) [] (GTerm.mk 4 (bs [47, 47]) 0 [a, b]) d = some (0, 4) := by
  have hd3 : ¬ decide (d > 40) = true := by simp; omega
  rw [pimpl_eval, walkedS (by rfl)]
  simp only [obs]
  rw [mk_gKind, mk_gKids, mk_gName, if_neg (by decide), if_neg (by decide), if_neg (by decide), if_neg hd3, if_pos (by rfl), q5, q6, q7, q8, ff, ff, ff]
  unfold pimpl_eval_J1
  rw [if_neg (by decide), evTwo hd hd2 ha hb]
  unfold pimpl_eval_J3
  rw [if_neg (by decide), mk_gName, q5, q6, q7, ff, ff, ff, if_pos (by decide)]
theorem errJ {k : Nat} (hk : maxLen < k) {s w : ByteArray} (hs : s.size ≤ 100) : ∃ t, pimpl_ErrorTerm_d_J1 k s w = some t ∧ pspec_ErrorTerm_J1 k s w = some t ∧ nT t ≤ 10 := by
  have hM := maxLen_eq
  unfold pimpl_ErrorTerm_d_J1 pspec_ErrorTerm_J1 pimpl_atom_d pimpl_structure_d pspec_l03Atom pspec_l03Two
  rw [nameOk (by omega) hk, l03Name (by omega) hk]
  simp only [obs]
  split
  · refine ⟨_, rfl, rfl, ?_⟩
    simp [nT, nTs]
  · refine ⟨_, rfl, rfl, ?_⟩
    simp [nT, nTs]
theorem errT {k : Nat} (hk : maxLen < k) {s : ByteArray} (hs : s.size ≤ 100) {n : Int} (h1 : -1 ≤ n) (h2 : n ≤ 5) : ∃ t, pimpl_ErrorTerm_d k n s = some t ∧ pspec_ErrorTerm k n s = some t ∧ nT t ≤ 10 := by
  unfold pimpl_ErrorTerm_d pspec_ErrorTerm
  rw [within]
  simp only [obs]
  have h : n = 1 ∨ n = 2 ∨ n = 3 ∨ n = 4 ∨ (n ≠ 1 ∧ n ≠ 2 ∧ n ≠ 3 ∧ n ≠ 4 ∧ ¬ (1 ≤ n ∧ n ≤ 4)) := by omega
  rcases h with rfl | rfl | rfl | rfl | ⟨a1, a2, a3, a4, a5⟩
  · rw [inR_t (by decide), if_pos rfl, if_pos (by decide), show at' [(bs [105, 110, 115, 116]), (bs [116, 121, 112, 101]), (bs [114, 97, 110, 103, 101]), (bs [122, 101, 114, 111])] (wr.i64 (1 - 1)) = some (bs [105, 110, 115, 116]) by rfl]
    simp only [obs]
    exact errJ hk hs
  · rw [inR_t (by decide), if_pos rfl, if_neg (by decide), if_pos (by decide), show at' [(bs [105, 110, 115, 116]), (bs [116, 121, 112, 101]), (bs [114, 97, 110, 103, 101]), (bs [122, 101, 114, 111])] (wr.i64 (2 - 1)) = some (bs [116, 121, 112, 101]) by rfl]
    simp only [obs]
    exact errJ hk hs
  · rw [inR_t (by decide), if_pos rfl, if_neg (by decide), if_neg (by decide), if_pos (by decide), show at' [(bs [105, 110, 115, 116]), (bs [116, 121, 112, 101]), (bs [114, 97, 110, 103, 101]), (bs [122, 101, 114, 111])] (wr.i64 (3 - 1)) = some (bs [114, 97, 110, 103, 101]) by rfl]
    simp only [obs]
    exact errJ hk hs
  · rw [inR_t (by decide), if_pos rfl, if_neg (by decide), if_neg (by decide), if_neg (by decide), if_pos (by decide), show at' [(bs [105, 110, 115, 116]), (bs [116, 121, 112, 101]), (bs [114, 97, 110, 103, 101]), (bs [122, 101, 114, 111])] (wr.i64 (4 - 1)) = some (bs [122, 101, 114, 111]) by rfl]
    simp only [obs]
    exact errJ hk hs
  · rw [inR_f a5, if_neg (by decide), if_neg (by simpa using a1), if_neg (by simpa using a2), if_neg (by simpa using a3), if_neg (by simpa using a4)]
    exact errJ hk hs
theorem drawError {k : Nat} {a : List Int} (hl : a.length ≤ 1048576) (hk : maxLen < k) : ∃ n s, pspec_DrawErrorTerm k a = some (n, s) ∧ -1 ≤ n ∧ n ≤ 5 ∧ s.size ≤ 100 := by
  unfold pspec_DrawErrorTerm
  obtain ⟨c, e1, g1⟩ := l01New hl hk
  obtain ⟨c2, v, e2, g2, g3, g4, _⟩ := l01Below g1 k 7
  obtain ⟨c3, s, e3, g5, g6⟩ := l01Pick g2 k (l := [(bs [105, 115, 47, 50]), (bs []), (bs [97, 32, 98])]) (by decide)
  rw [e1]
  simp only [obs]
  rw [e2]
  simp only [obs]
  rw [e3]
  simp only [obs]
  have := g4 (by decide)
  rw [wr_i64 (by omega) (by omega)]
  refine ⟨_, _, rfl, by omega, by omega, ?_⟩
  have h : ∀ s ∈ [(bs [105, 115, 47, 50]), (bs []), (bs [97, 32, 98])], s.size ≤ 100 := by decide
  exact h s g6
theorem drawEval {k : Nat} {a : List Int} (hl : a.length ≤ 1048576) (hk : maxLen + 1100000 < k) (hk2 : 1000000 < k - maxLen) (hk3 : 100 ≤ k) : ∃ b t, pspec_DrawEval k a = some (b, t) ∧ b.gList.length ≤ 4 := by
  unfold pspec_DrawEval
  obtain ⟨c, e1, g1⟩ := l01New hl (Nat.lt_of_le_of_lt (Nat.le_add_right _ _) hk)
  obtain ⟨c2, v, e2, g2, _⟩ := l01Below g1 k 6
  obtain ⟨c3, s, e3, g5, g6⟩ := l01Pick g2 k (l := texts) (by decide)
  rw [e1]
  simp only [obs]
  rw [e2]
  simp only [obs]
  have e3' := e3
  unfold texts at e3'
  rw [e3']
  simp only [obs]
  have h : ∀ s ∈ texts, s.size ≤ 100 := by decide
  have hs := h s g6
  have hz : (bs [32, 46]).size = 2 := by decide
  rw [if_pos (by unfold sumOk; rw [hz]; omega)]
  obtain ⟨n, rfl⟩ : ∃ n, k = n + 100 := ⟨k - 100, (Nat.sub_add_cancel hk3).symm⟩
  have hr := List.all_eq_true.1 (reads n) s g6
  obtain ⟨r, e4⟩ := Option.isSome_iff_exists.1 hr
  rw [e4]
  simp only [obs]
  split
  · obtain ⟨c4, t, e5, g7, _⟩ := l03Any g5 hk2
    rw [e5]
    simp only [obs]
    obtain ⟨c5, b, e6, g8⟩ := any4 hk hk2 g7
    rw [e6]
    simp only [obs]
    exact ⟨_, _, rfl, g8⟩
  · obtain ⟨c5, b, e6, g8⟩ := any4 hk hk2 g5
    rw [e6]
    simp only [obs]
    exact ⟨_, _, rfl, g8⟩
theorem law (a : List Int) (ha : okL (okI .u8) a) : ∃ k, plaws_FnEvals k a = some true := by
  obtain ⟨k, hk⟩ : ∃ k, 10995116277760 < k - maxLen := ⟨10995116277761 + maxLen, by rw [Nat.add_sub_cancel]; decide⟩
  refine ⟨k, ?_⟩
  have hM := maxLen_eq
  have hk1 : 1000000 < k - maxLen := kle _ hk
  have hk2 : maxLen + 1100000 < k := kk _ hk
  have hk3 : maxLen < k := kz hk
  have hk4 : 100 ≤ k := by omega
  unfold plaws_FnEvals plaws_big
  rw [obs]
  by_cases hb : (a.length : Int) > 1048576
  · rw [if_pos (by simpa using hb)]
  rw [if_neg (by simpa using hb)]
  have hl : a.length ≤ 1048576 := by omega
  obtain ⟨p, q, l, e1, hp, hq⟩ := places (k := k) hl hk3
  obtain ⟨b, t, e2, hbl⟩ := drawEval hl hk2 hk1 hk4
  obtain ⟨r, e3, e4⟩ := eval (k := k) (kk _ hk) (x := b) (by omega) t
  obtain ⟨n, s, e5, n1, n2, hs⟩ := drawError (k := k) hl hk3
  obtain ⟨z, e6, e7, hz⟩ := errT (k := k) hk3 hs n1 n2
  have e8 := sameTerm k z (by have : 2 * nT z + 2 ≤ 1000 := by omega
                              have := kk (n := 10995116277760) 1000 hk
                              omega) (by unfold Huge; omega)
  obtain ⟨j, rfl⟩ : ∃ j, k = j + 5 := ⟨k - 5, by omega⟩
  have w1 : wr.i64 ((1 : Int) + 1) = 1 + 1 := wr_i64 (by omega) (by omega)
  have w2 : wr.i64 ((1 : Int) + 1 + 1) = 1 + 1 + 1 := wr_i64 (by omega) (by omega)
  have w3 : wr.i64 ((1 : Int) + 1 + 1 + 1) = 1 + 1 + 1 + 1 := wr_i64 (by omega) (by omega)
  have hpq : 0 ≤ (p + q) * p ∧ (p + q) * p ≤ 200000000 := by
    have h1 : 0 ≤ p + q := by omega
    have h2 : p + q ≤ 20000 := by omega
    refine ⟨Int.mul_nonneg h1 hp.1, ?_⟩
    have : (p + q) * p ≤ 20000 * 10000 := Int.mul_le_mul h2 (by omega) hp.1 (by omega)
    omega
  have rp : ∀ x : Int, 0 ≤ x → x ≤ 200000000 → -999999999 ≤ x ∧ x ≤ 999999999 := fun x h1 h2 => by omega
  have m1 : pimpl_eval (j + 5) [] (GTerm.mk 4 (bs [42]) 0 [GTerm.mk 4 (bs [43]) 0 [GTerm.mk 3 (bs []) p [], GTerm.mk 3 (bs []) q []], GTerm.mk 3 (bs []) p []]) 1 = some ((p + q) * p, 0) :=
    evMul w1 (by omega) (evAdd w2 (by omega) (evInt (rp p (by omega) (by omega))) (evInt (rp q (by omega) (by omega))) (rp _ (by omega) (by omega))) (evInt (rp p (by omega) (by omega))) (rp _ hpq.1 hpq.2)
  have m2 : pimpl_eval (j + 5) [] (GTerm.mk 4 (bs [47, 47]) 0 [GTerm.mk 4 (bs [42]) 0 [GTerm.mk 4 (bs [43]) 0 [GTerm.mk 3 (bs []) p [], GTerm.mk 3 (bs []) q []], GTerm.mk 3 (bs []) p []], GTerm.mk 3 (bs []) 0 []]) 1 = some (0, 4) :=
    evZero w1 (by omega) (evMul w2 (by omega) (evAdd w3 (by omega) (evInt (rp p (by omega) (by omega))) (evInt (rp q (by omega) (by omega))) (rp _ (by omega) (by omega))) (evInt (rp p (by omega) (by omega))) (rp _ hpq.1 hpq.2)) (evInt (by omega))
  have v1 : pimpl_Eval (j + 5) (GBinds.mk []) (GTerm.mk 4 (bs [42]) 0 [GTerm.mk 4 (bs [43]) 0 [GTerm.mk 3 (bs []) p [], GTerm.mk 3 (bs []) q []], GTerm.mk 3 (bs []) p []]) = some ((p + q) * p, 0) := by
    unfold pimpl_Eval
    rw [show (GBinds.mk []).gList = [] from rfl, m1, obs]
  have v2 : pimpl_Eval (j + 5) (GBinds.mk []) (GTerm.mk 4 (bs [47, 47]) 0 [GTerm.mk 4 (bs [42]) 0 [GTerm.mk 4 (bs [43]) 0 [GTerm.mk 3 (bs []) p [], GTerm.mk 3 (bs []) q []], GTerm.mk 3 (bs []) p []], GTerm.mk 3 (bs []) 0 []]) = some (0, 4) := by
    unfold pimpl_Eval
    rw [show (GBinds.mk []).gList = [] from rfl, m2, obs]
  have a0 : at' (p :: q :: l) 0 = some p := rfl
  have a1 : at' (p :: q :: l) 1 = some q := rfl
  have w4 : wr.i64 (p + q) = p + q := wr_i64 (by omega) (by omega)
  have w5 : wr.i64 ((p + q) * p) = (p + q) * p := wr_i64 (by omega) (by omega)
  have ov : decide ((p + q) * p > 999999999) = false := by simp; omega
  simp only [e1, a0, a1, obs, v1, v2, e2, e3, e4, e5, e6, e7, e8, w4, w5, ov, Bool.false_eq_true, if_false, if_true, beq_self_eq_true]
end FnEvals
end Go.Proofs.Ytkmifafdenblcaa

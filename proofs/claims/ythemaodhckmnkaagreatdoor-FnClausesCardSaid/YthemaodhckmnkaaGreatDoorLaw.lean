/- The law, plainly. -/
import Derived.Test.YthemaodhckmnkaaGreatDoorFn
set_option linter.unusedVariables false
set_option linter.unusedSimpArgs false
namespace Go.Proofs.YthemaodhckmnkaaGreatDoor
open Go.RowKit Go.Bv
namespace FnClauses
mutual
/-- How many terms stand in a term. -/
def nT : GTerm → Nat
  | .mk _ _ _ l => nTs l
def nTs : List GTerm → Nat
  | [] => 0
  | x :: l => 1 + nT x + nTs l
end
theorem nTs_eq : ∀ l : List GTerm, nTs l = nsum nT l
  | [] => by rw [nTs]; rfl
  | x :: l => by rw [nTs, nsum, nTs_eq l]
theorem nT_kids (x : GTerm) : nT x = nsum nT x.gKids := by
  cases x with
  | mk a b c l => rw [nT, nTs_eq]; rfl

theorem ok_kids {x : GTerm} (h : x.ok) : okL GTerm.ok x.gKids := by cases h with | mk a b c l h1 h2 h3 h4 h5 => exact ⟨h4, h5⟩
theorem ok_name {x : GTerm} (h : x.ok) : okFs x.gName := by cases h with | mk a b c l h1 h2 h3 h4 h5 => exact h2
theorem ok_kind {x : GTerm} (h : x.ok) : okI .i64 x.gKind := by cases h with | mk a b c l h1 h2 h3 h4 h5 => exact h1
theorem ok_num {x : GTerm} (h : x.ok) : okI .i64 x.gNum := by cases h with | mk a b c l h1 h2 h3 h4 h5 => exact h3

theorem mk_gKind (a : Int) (b : ByteArray) (c : Int) (l : List GTerm) : (GTerm.mk a b c l).gKind = a := rfl
theorem mk_gName (a : Int) (b : ByteArray) (c : Int) (l : List GTerm) : (GTerm.mk a b c l).gName = b := rfl
theorem mk_gNum (a : Int) (b : ByteArray) (c : Int) (l : List GTerm) : (GTerm.mk a b c l).gNum = c := rfl
theorem mk_gKids (a : Int) (b : ByteArray) (c : Int) (l : List GTerm) : (GTerm.mk a b c l).gKids = l := rfl

/-- Is it within these bounds? -/
def inR (x a b : Int) : Bool := decide (a ≤ x ∧ x ≤ b)
theorem inR_t {x a b : Int} (h : a ≤ x ∧ x ≤ b) : inR x a b = true := decide_eq_true h
theorem inR_f {x a b : Int} (h : ¬ (a ≤ x ∧ x ≤ b)) : inR x a b = false := decide_eq_false h

theorem l01In (k : Nat) (x a b : Int) : pspec_l01In k x a b = some (inR x a b) := by
  unfold pspec_l01In inR
  by_cases h : a ≤ x
  · rw [if_pos (by simpa using h)]; simp [h]
  · rw [if_neg (by simpa using h)]; simp [h]

theorem within (k : Nat) (x a b : Int) : pimpl_within k x a b = some (inR x a b) := by
  unfold pimpl_within inR
  by_cases h : a ≤ x
  · rw [if_pos (by simpa using h)]; simp [h]
  · rw [if_neg (by simpa using h)]; simp [h]
theorem bt_le (s : ByteArray) (i : Int) : 0 ≤ bt s i ∧ bt s i ≤ 255 := by
  unfold bt
  have : ((s[i.toNat]?).getD 0).toNat < 256 := ((s[i.toNat]?).getD 0).toNat_lt
  omega
/-- A byte that a name may have. -/
def gb (s : ByteArray) (i : Nat) : Prop := 33 ≤ bt s (i : Int) ∧ bt s (i : Int) ≤ 126 ∧ bt s (i : Int) ≠ 39 ∧ bt s (i : Int) ≠ 34
instance (s : ByteArray) (i : Nat) : Decidable (gb s i) := by unfold gb; infer_instance
/-- A name. -/
def nmOk (s : ByteArray) : Prop := (∀ i, i < s.size → gb s i) ∧ 1 ≤ s.size ∧ s.size ≤ 20
instance (s : ByteArray) : Decidable (nmOk s) := by unfold nmOk; infer_instance

theorem l03Name_L1 (k : Nat) (s : ByteArray) (hs : s.size ≤ maxLen) : ∀ (m n : Nat), n ≤ s.size → s.size - n < m →
    ∃ o, pspec_l03Name_L1 k s m (n : Int) = some o ∧ (match o with | .ret r => r = false ∧ ∃ i, i < s.size ∧ ¬ gb s i | .done _ => ∀ i, n ≤ i → i < s.size → gb s i)
  | 0, n, h1, h2 => by omega
  | m + 1, n, h1, h2 => by
    unfold pspec_l03Name_L1
    by_cases hlt : n < s.size
    · have hg : 0 ≤ (n : Int) ∧ (n : Int).toNat < s.size := ⟨by omega, by simpa using hlt⟩
      have bad : ∀ b : Prop, (gb s n → ¬ b) → b → ∃ o, (some (Out.ret false) : Option (Out Bool Unit)) = some o ∧ (match o with | .ret r => r = false ∧ ∃ i, i < s.size ∧ ¬ gb s i | .done _ => ∀ i, n ≤ i → i < s.size → gb s i) :=
        fun b h hb => ⟨_, rfl, rfl, n, hlt, fun h' => h h' hb⟩
      rw [if_pos (by simpa using hlt), if_pos hg]
      by_cases c1 : bt s (n : Int) < 33
      · rw [if_pos (by simpa using c1)]; exact bad _ (fun h => by have := h.1; omega) c1
      rw [if_neg (by simpa using c1), if_pos hg]
      by_cases c2 : bt s (n : Int) > 126
      · rw [if_pos (by simpa using c2)]; exact bad _ (fun h => by have := h.2.1; omega) c2
      rw [if_neg (by simpa using c2), if_pos hg]
      by_cases c3 : bt s (n : Int) = 39
      · rw [if_pos (by simpa using c3)]; exact bad _ (fun h => h.2.2.1) c3
      rw [if_neg (by simpa using c3), if_pos hg]
      by_cases c4 : bt s (n : Int) = 34
      · rw [if_pos (by simpa using c4)]; exact bad _ (fun h => h.2.2.2) c4
      rw [if_neg (by simpa using c4), wr_succ hlt hs]
      obtain ⟨o, h3, h4⟩ := l03Name_L1 k s hs m (n + 1) (by omega) (by omega)
      refine ⟨o, h3, ?_⟩
      cases o with
      | ret r => exact h4
      | done u =>
        intro i hi1 hi2
        by_cases e : i = n
        · subst e; exact ⟨by omega, by omega, c3, c4⟩
        · exact h4 i (by omega) hi2
    · rw [if_neg (by simpa using hlt)]
      exact ⟨_, rfl, fun i h3 h4 => by omega⟩

theorem nameOk_L1 (k : Nat) (s : ByteArray) (hs : s.size ≤ maxLen) : ∀ (m n : Nat), n ≤ s.size → s.size - n < m →
    ∃ o, pimpl_nameOk_L1 k s m (n : Int) = some o ∧ (match o with | .ret r => r = false ∧ ∃ i, i < s.size ∧ ¬ gb s i | .done _ => ∀ i, n ≤ i → i < s.size → gb s i)
  | 0, n, h1, h2 => by omega
  | m + 1, n, h1, h2 => by
    unfold pimpl_nameOk_L1
    by_cases hlt : n < s.size
    · have hg : 0 ≤ (n : Int) ∧ (n : Int).toNat < s.size := ⟨by omega, by simpa using hlt⟩
      have hb := bt_le s (n : Int)
      have bad : ∀ b : Prop, (gb s n → ¬ b) → b → ∃ o, (some (Out.ret false) : Option (Out Bool Unit)) = some o ∧ (match o with | .ret r => r = false ∧ ∃ i, i < s.size ∧ ¬ gb s i | .done _ => ∀ i, n ≤ i → i < s.size → gb s i) :=
        fun b h hb => ⟨_, rfl, rfl, n, hlt, fun h' => h h' hb⟩
      rw [if_pos (by simpa using hlt), if_pos hg, within, wr_i64 (by omega) (by omega)]
      simp only [Option.bind_some]
      by_cases c1 : 33 ≤ bt s (n : Int) ∧ bt s (n : Int) ≤ 126
      · rw [inR_t c1, if_neg (by simp), if_pos hg]
        by_cases c3 : bt s (n : Int) = 39
        · rw [if_pos (by simpa using c3)]; exact bad _ (fun h => h.2.2.1) c3
        rw [if_neg (by simpa using c3), if_pos hg]
        by_cases c4 : bt s (n : Int) = 34
        · rw [if_pos (by simpa using c4)]; exact bad _ (fun h => h.2.2.2) c4
        rw [if_neg (by simpa using c4), wr_succ hlt hs]
        obtain ⟨o, h3, h4⟩ := nameOk_L1 k s hs m (n + 1) (by omega) (by omega)
        refine ⟨o, h3, ?_⟩
        cases o with
        | ret r => exact h4
        | done u =>
          intro i hi1 hi2
          by_cases e : i = n
          · subst e; exact ⟨by omega, by omega, c3, c4⟩
          · exact h4 i (by omega) hi2
      · rw [inR_f c1, if_pos (by simp)]
        exact bad _ (fun h => by have := h.1; have := h.2.1; omega) c1
    · rw [if_neg (by simpa using hlt)]
      exact ⟨_, rfl, fun i h3 h4 => by omega⟩

theorem nm_of {s : ByteArray} (h : ∀ i, 0 ≤ i → i < s.size → gb s i) : inR (s.size : Int) 1 20 = decide (nmOk s) := by
  unfold inR
  rw [decide_eq_decide]
  unfold nmOk
  constructor
  · intro h1; exact ⟨fun i hi => h i (by omega) hi, by omega, by omega⟩
  · intro h1; obtain ⟨_, h5, h6⟩ := h1; omega

theorem l03Name {k : Nat} {s : ByteArray} (hs : s.size ≤ maxLen) (hk : maxLen < k) : pspec_l03Name k s = some (decide (nmOk s)) := by
  unfold pspec_l03Name
  obtain ⟨o, h1, h2⟩ := l03Name_L1 k s hs k 0 (by omega) (by omega)
  rw [show ((0 : Nat) : Int) = 0 from rfl] at h1
  rw [h1]
  cases o with
  | ret r =>
    obtain ⟨rfl, i, h3, h4⟩ := h2
    have : ¬ nmOk s := fun h => h4 (h.1 i h3)
    simp [this]
  | done u =>
    simp only [Option.bind_some]
    rw [l01In]
    simp only [Option.bind_some]
    rw [nm_of h2]

theorem nameOk {k : Nat} {s : ByteArray} (hs : s.size ≤ maxLen) (hk : maxLen < k) : pimpl_nameOk k s = some (decide (nmOk s)) := by
  unfold pimpl_nameOk
  obtain ⟨o, h1, h2⟩ := nameOk_L1 k s hs k 0 (by omega) (by omega)
  rw [show ((0 : Nat) : Int) = 0 from rfl] at h1
  rw [h1]
  cases o with
  | ret r =>
    obtain ⟨rfl, i, h3, h4⟩ := h2
    have : ¬ nmOk s := fun h => h4 (h.1 i h3)
    simp [this]
  | done u =>
    simp only [Option.bind_some]
    rw [within]
    simp only [Option.bind_some]
    rw [nm_of h2]

/-- The head of a term is as it should be. -/
def one (x : GTerm) : Bool :=
  if x.gKind = 1 then inR x.gNum 0 99999 && (sEq x.gName (bs []) && ((x.gKids.length : Int) == 0))
  else if x.gKind = 2 then decide (nmOk x.gName) && ((x.gNum == 0) && ((x.gKids.length : Int) == 0))
  else if x.gKind = 3 then inR x.gNum (-999999999) 999999999 && (sEq x.gName (bs []) && ((x.gKids.length : Int) == 0))
  else if x.gKind = 4 then decide (nmOk x.gName) && ((x.gNum == 0) && inR (x.gKids.length : Int) 1 5)
  else false
mutual
/-- A term, at a depth, is as it should be. -/
def gT : Int → GTerm → Bool
  | d, .mk a b c l => decide (d ≤ 40) && (one (.mk a b c l) && gTs (d + 1) l)
def gTs : Int → List GTerm → Bool
  | _, [] => true
  | d, x :: l => gT d x && gTs d l
end
theorem gT_eq (d : Int) (x : GTerm) : gT d x = (decide (d ≤ 40) && (one x && gTs (d + 1) x.gKids)) := by
  cases x with
  | mk a b c l => rw [gT]; rfl
theorem gTs_drop {d : Int} {l : List GTerm} {j : Nat} (h : j < l.length) : gTs d (l.drop j) = (gT d l[j] && gTs d (l.drop (j + 1))) := by
  rw [List.drop_eq_getElem_cons h, gTs]
theorem ns_drop {l : List GTerm} {j : Nat} (h : j < l.length) : nsum nT (l.drop j) = 1 + nT l[j] + nsum nT (l.drop (j + 1)) := by
  rw [List.drop_eq_getElem_cons h, nsum]

theorem l03One {k : Nat} {x : GTerm} (hx : x.ok) (hk : maxLen < k) : pspec_l03One k x = some (one x) := by
  have hn := l03Name (k := k) (s := x.gName) (ok_name hx) hk
  unfold pspec_l03One one
  simp only [hn, l01In, Option.bind_some]
  by_cases c1 : x.gKind = 1
  · rw [if_pos (by simpa using c1), if_pos c1]
    cases inR x.gNum 0 99999 <;> cases sEq x.gName (bs []) <;> simp
  rw [if_neg (by simpa using c1), if_neg c1]
  by_cases c2 : x.gKind = 2
  · rw [if_pos (by simpa using c2), if_pos c2]
    cases decide (nmOk x.gName) <;> by_cases h : x.gNum = 0 <;> simp [h]
  rw [if_neg (by simpa using c2), if_neg c2]
  by_cases c3 : x.gKind = 3
  · rw [if_pos (by simpa using c3), if_pos c3]
    cases inR x.gNum (-999999999) 999999999 <;> cases sEq x.gName (bs []) <;> simp
  rw [if_neg (by simpa using c3), if_neg c3]
  by_cases c4 : x.gKind = 4
  · rw [if_pos (by simpa using c4), if_pos c4]
    cases decide (nmOk x.gName) <;> by_cases h : x.gNum = 0 <;> simp [h]
  · rw [if_neg (by simpa using c4), if_neg c4]

/-- What is left of so many terms. -/
def leftOf (v left : Int) (n : Nat) : Prop := -1 ≤ v ∧ (0 ≤ v ↔ (n : Int) ≤ left) ∧ (0 ≤ v → v = left - (n : Int))
theorem l03Count_L1 {k : Nat} {x : GTerm} {f : GTerm → Int → Option Int} (hx : x.gKids.length ≤ maxLen) (hf : ∀ y ∈ x.gKids, ∀ b, 0 ≤ b → b ≤ 401 → ∃ v, f y b = some v ∧ leftOf v b (1 + nT y)) :
    ∀ (m j : Nat) (b : Int), j ≤ x.gKids.length → x.gKids.length - j < m → -1 ≤ b → b ≤ 401 →
      ∃ v, pspec_l03Count_L1 k f x m b (j : Int) = some (.done v) ∧ ((b = -1 ∧ v = -1) ∨ (0 ≤ b ∧ leftOf v b (nsum nT (x.gKids.drop j))))
  | 0, j, b, h1, h2, h3, h4 => by omega
  | m + 1, j, b, h1, h2, h3, h4 => by
    unfold pspec_l03Count_L1
    by_cases hlt : j < x.gKids.length
    · rw [if_pos (by simpa using hlt)]
      by_cases hb : 0 ≤ b
      · rw [if_pos (by simpa using hb), at_lt hlt]
        simp only [Option.bind_some]
        obtain ⟨v, e, g1, g2, g3⟩ := hf _ (List.getElem_mem hlt) b hb h4
        rw [e]
        simp only [Option.bind_some]
        rw [wr_succ hlt hx]
        obtain ⟨u, e2, h5⟩ := l03Count_L1 (k := k) hx hf m (j + 1) v (by omega) (by omega) g1 (by by_cases h : 0 ≤ v <;> omega)
        refine ⟨u, e2, .inr ⟨hb, ?_⟩⟩
        rw [ns_drop hlt]
        rcases h5 with ⟨rfl, rfl⟩ | ⟨h6, h7, h8, h9⟩
        · refine ⟨by omega, ⟨fun h => by omega, fun h => by have := g2.2 (by omega); omega⟩, fun h => by omega⟩
        · have := g3 h6
          have := g2.1 h6
          refine ⟨h7, ⟨fun h => by have := h8.1 h; omega, fun h => h8.2 (by omega)⟩, fun h => by have := h9 h; omega⟩
      · rw [if_neg (by simpa using hb)]
        exact ⟨b, rfl, .inl ⟨by omega, by omega⟩⟩
    · rw [if_neg (by simpa using hlt)]
      rw [List.drop_of_length_le (by omega)]
      by_cases hb : 0 ≤ b
      · exact ⟨b, rfl, .inr ⟨hb, h3, by simp only [nsum]; omega, fun _ => by simp only [nsum]; omega⟩⟩
      · exact ⟨b, rfl, .inl ⟨by omega, by omega⟩⟩

theorem l03Count : ∀ (k : Nat) (x : GTerm), maxLen + 2 * nT x + 2 < k → x.ok → ∀ b : Int, 0 ≤ b → b ≤ 401 → ∃ v, pspec_l03Count k x b = some v ∧ leftOf v b (1 + nT x)
  | 0, x, h => by omega
  | k + 1, x, hw => by
    intro hx b h0 h1
    have hn := nT_kids x
    unfold pspec_l03Count
    rw [wr_i64 (by omega) (by omega)]
    obtain ⟨v, e, h⟩ := l03Count_L1 (k := k) (x := x) (ok_kids hx).1 (fun y hy b h0 h1 => by have := nsum_mem (n := nT) hy; exact l03Count k y (by omega) ((ok_kids hx).2 y hy) b h0 h1) k 0 (b - 1) (by omega) (by have := (ok_kids hx).1; omega) (by omega) (by omega)
    rw [show ((0 : Nat) : Int) = 0 from rfl] at e
    rw [e]
    refine ⟨v, rfl, ?_⟩
    rw [List.drop_zero, ← hn] at h
    rcases h with ⟨h2, rfl⟩ | ⟨h2, h3, h4, h5⟩
    · exact ⟨by omega, ⟨fun h => by omega, fun h => by omega⟩, fun h => by omega⟩
    · exact ⟨h3, ⟨fun h => by have := h4.1 h; omega, fun h => h4.2 (by omega)⟩, fun h => by have := h5 h; omega⟩

theorem l03Right_L1 {k : Nat} {x : GTerm} {d : Int} {f : GTerm → Int → Option Bool} (hx : x.gKids.length ≤ maxLen) (hd : wr.i64 (d + 1) = d + 1) (hf : ∀ y ∈ x.gKids, f y (d + 1) = some (gT (d + 1) y)) :
    ∀ (m j : Nat), j ≤ x.gKids.length → x.gKids.length - j < m → pspec_l03Right_L1 k f x d m (j : Int) = some (if gTs (d + 1) (x.gKids.drop j) then .done () else .ret false)
  | 0, j, h1, h2 => by omega
  | m + 1, j, h1, h2 => by
    unfold pspec_l03Right_L1
    by_cases hlt : j < x.gKids.length
    · rw [if_pos (by simpa using hlt), at_lt hlt, hd]
      simp only [Option.bind_some, hf _ (List.getElem_mem hlt)]
      rw [gTs_drop hlt]
      cases hg : gT (d + 1) x.gKids[j] with
      | false => simp
      | true =>
        rw [if_neg (by simp), wr_succ hlt hx, l03Right_L1 hx hd hf m (j + 1) (by omega) (by omega)]
        simp
    · rw [if_neg (by simpa using hlt), List.drop_of_length_le (by omega), gTs]; rfl

theorem l03Right : ∀ (k : Nat) (x : GTerm), maxLen + 2 * nT x + 2 < k → x.ok → ∀ d : Int, 0 ≤ d → d ≤ 41 → pspec_l03Right k x d = some (gT d x)
  | 0, x, h => by omega
  | k + 1, x, hw => by
    intro hx d h0 h1
    have hn := nT_kids x
    unfold pspec_l03Right
    rw [gT_eq]
    by_cases hd : d > 40
    · rw [if_pos (by simpa using hd)]; simp; omega
    · rw [if_neg (by simpa using hd), l03One hx (by omega)]
      simp only [Option.bind_some]
      cases h1 : one x with
      | false => simp
      | true =>
        rw [if_neg (by simp)]
        have e := l03Right_L1 (k := k) (x := x) (d := d) (ok_kids hx).1 (wr_i64 (by omega) (by omega)) (fun y hy => by have := nsum_mem (n := nT) hy; exact l03Right k y (by omega) ((ok_kids hx).2 y hy) (d + 1) (by omega) (by omega)) k 0 (by omega) (by have := (ok_kids hx).1; omega)
        rw [show ((0 : Nat) : Int) = 0 from rfl, List.drop_zero] at e
        rw [e]
        cases gTs (d + 1) x.gKids <;> simp <;> omega

/-- A term is right. -/
def tOk (x : GTerm) : Bool := decide (1 + nT x ≤ 400) && gT 1 x
theorem spec_TermOk {k : Nat} {x : GTerm} (hw : maxLen + 2 * nT x + 2 < k) (hx : x.ok) : pspec_TermOk k x = some (tOk x) := by
  unfold pspec_TermOk tOk
  obtain ⟨v, e, h1, h2, h3⟩ := l03Count k x hw hx 400 (by omega) (by omega)
  rw [e]
  simp only [Option.bind_some]
  by_cases hv : 0 ≤ v
  · rw [if_pos (by simpa using hv), l03Right k x hw hx 1 (by omega) (by omega)]
    have := h2.1 hv
    simp; omega
  · rw [if_neg (by simpa using hv)]
    have : ¬ (1 + nT x ≤ 400) := fun h => hv (h2.2 (by omega))
    simp [this]

/-- What the program counts. -/
def cnt (d : Int) (x : GTerm) : Int := if gT d x && decide (1 + nT x ≤ 400) then ((1 + nT x : Nat) : Int) else 401
theorem sized_L2 {k : Nat} {x : GTerm} {d : Int} {f : GTerm → Int → Option Int} (hx : x.gKids.length ≤ maxLen) (hd : wr.i64 (d + 1) = d + 1) (hf : ∀ y ∈ x.gKids, f y (d + 1) = some (cnt (d + 1) y)) :
    ∀ (m j : Nat) (b : Int), j ≤ x.gKids.length → x.gKids.length - j < m → 1 ≤ b → b ≤ 400 →
      pimpl_sized_L2 k f x d m b (j : Int) = some (if gTs (d + 1) (x.gKids.drop j) && decide (b + (nsum nT (x.gKids.drop j) : Int) ≤ 400) then .done (b + (nsum nT (x.gKids.drop j) : Int)) else .ret 401)
  | 0, j, b, h1, h2, h3, h4 => by omega
  | m + 1, j, b, h1, h2, h3, h4 => by
    unfold pimpl_sized_L2
    by_cases hlt : j < x.gKids.length
    · rw [if_pos (by simpa using hlt), at_lt hlt, hd]
      simp only [Option.bind_some, hf _ (List.getElem_mem hlt)]
      rw [gTs_drop hlt, ns_drop hlt, wr_succ hlt hx]
      by_cases hg : gT (d + 1) x.gKids[j] = true ∧ 1 + nT x.gKids[j] ≤ 400
      · have hc : cnt (d + 1) x.gKids[j] = ((1 + nT x.gKids[j] : Nat) : Int) := by unfold cnt; rw [if_pos (by simpa using hg)]
        rw [hc, wr_i64 (by omega) (by omega)]
        by_cases hs : b + ((1 + nT x.gKids[j] : Nat) : Int) > 400
        · rw [if_pos (by simpa using hs), if_neg]
          simp only [Bool.and_eq_true, decide_eq_true_eq, not_and]
          intro _; omega
        · rw [if_neg (by simpa using hs), sized_L2 hx hd hf m (j + 1) _ (by omega) (by omega) (by omega) (by omega), hg.1, Bool.true_and]
          have e1 : b + ((1 + nT x.gKids[j] : Nat) : Int) + (nsum nT (x.gKids.drop (j + 1)) : Int) = b + ((1 + nT x.gKids[j] + nsum nT (x.gKids.drop (j + 1)) : Nat) : Int) := by omega
          rw [e1]
      · have hc : cnt (d + 1) x.gKids[j] = 401 := by unfold cnt; rw [if_neg (by simpa using hg)]
        rw [hc, wr_i64 (by omega) (by omega), if_pos (by simp; omega), if_neg]
        simp only [Bool.and_eq_true, decide_eq_true_eq, not_and]
        intro h5
        have h6 : ¬ (1 + nT x.gKids[j] ≤ 400) := fun h => hg ⟨h5.1, h⟩
        omega
    · rw [if_neg (by simpa using hlt), List.drop_of_length_le (by omega), gTs, if_pos (by simp only [nsum]; simp; omega)]
      simp [nsum]

theorem sized : ∀ (k : Nat) (x : GTerm), maxLen + 2 * nT x + 2 < k → x.ok → ∀ d : Int, 0 ≤ d → d ≤ 41 → pimpl_sized k x d = some (cnt d x)
  | 0, x, h => by omega
  | k + 1, x, hw => by
    intro hx d h0 h1
    have hn := nT_kids x
    have hnm := nameOk (k := k) (s := x.gName) (ok_name hx) (by omega)
    have hJ : d ≤ 40 → one x = true → pimpl_sized_J1 k (pimpl_sized k) x d = some (cnt d x) := by
      intro hd h1
      unfold pimpl_sized_J1 cnt
      have e := sized_L2 (k := k) (x := x) (d := d) (ok_kids hx).1 (wr_i64 (by omega) (by omega)) (fun y hy => by have := nsum_mem (n := nT) hy; exact sized k y (by omega) ((ok_kids hx).2 y hy) (d + 1) (by omega) (by omega)) k 0 1 (by omega) (by have := (ok_kids hx).1; omega) (by omega) (by omega)
      rw [show ((0 : Nat) : Int) = 0 from rfl, List.drop_zero, ← hn] at e
      rw [e, gT_eq, h1, Bool.true_and, decide_eq_true hd, Bool.true_and]
      have e2 : decide (1 + (nT x : Int) ≤ 400) = decide (1 + nT x ≤ 400) := by rw [decide_eq_decide]; omega
      rw [e2]
      split
      · simp
      · simp
    have hbad : one x = false → (401 : Int) = cnt d x := by
      intro h1; unfold cnt; rw [gT_eq, h1]; simp
    unfold pimpl_sized
    by_cases hd : d > 40
    · rw [if_pos (by simpa using hd)]
      unfold cnt; rw [gT_eq, decide_eq_false (show ¬ d ≤ 40 by omega)]; simp
    have hJ' := hJ (by omega)
    rw [if_neg (by simpa using hd)]
    simp only [hnm, within, Option.bind_some]
    generalize pimpl_sized_J1 k (pimpl_sized k) x d = J at hJ' ⊢
    generalize cnt d x = C at hJ' hbad ⊢
    have hlen : ((x.gKids.length : Int) > 0) ↔ ¬ ((x.gKids.length : Int) = 0) := by omega
    unfold one at hJ' hbad
    by_cases c1 : x.gKind = 1
    · rw [if_pos (by simpa using c1)]
      rw [if_pos c1] at hJ' hbad
      cases h2 : inR x.gNum 0 99999 <;> cases h3 : sEq x.gName (bs []) <;> by_cases h4 : (x.gKids.length : Int) = 0 <;> simp_all
    rw [if_neg (by simpa using c1)]
    rw [if_neg c1] at hJ' hbad
    by_cases c2 : x.gKind = 2
    · rw [if_pos (by simpa using c2)]
      rw [if_pos c2] at hJ' hbad
      cases h2 : decide (nmOk x.gName) <;> by_cases h3 : x.gNum = 0 <;> by_cases h4 : (x.gKids.length : Int) = 0 <;> simp_all
    rw [if_neg (by simpa using c2)]
    rw [if_neg c2] at hJ' hbad
    by_cases c3 : x.gKind = 3
    · rw [if_pos (by simpa using c3)]
      rw [if_pos c3] at hJ' hbad
      cases h2 : inR x.gNum (-999999999) 999999999 <;> cases h3 : sEq x.gName (bs []) <;> by_cases h4 : (x.gKids.length : Int) = 0 <;> simp_all
    rw [if_neg (by simpa using c3)]
    rw [if_neg c3] at hJ' hbad
    by_cases c4 : x.gKind = 4
    · rw [if_pos (by simpa using c4)]
      rw [if_pos c4] at hJ' hbad
      cases h2 : decide (nmOk x.gName) <;> by_cases h3 : x.gNum = 0 <;> cases h4 : inR (x.gKids.length : Int) 1 5 <;> simp_all
    · rw [if_neg (by simpa using c4)]
      rw [if_neg c4] at hbad
      rw [hbad rfl]

theorem impl_TermOk {k : Nat} {x : GTerm} (hw : maxLen + 2 * nT x + 2 < k) (hx : x.ok) : pimpl_TermOk k x = some (tOk x) := by
  unfold pimpl_TermOk tOk
  rw [sized k x hw hx 1 (by omega) (by omega)]
  simp only [Option.bind_some]
  unfold cnt
  cases gT 1 x <;> by_cases h : 1 + nT x ≤ 400 <;> simp [h] <;> omega
theorem l34Terms_L1 {k : Nat} {f : GTerm → Option GTerm} {g : List GTerm → Option (List GTerm)} {l : List GTerm} (hl : l.length ≤ 1048576) (hf : ∀ x ∈ l, f x = some x) :
    ∀ (m j : Nat), j ≤ l.length → l.length - j < m → pspec_l34Terms_L1 k f g l m (l.take j) (j : Int) = some (.done l)
  | 0, j, h1, h2 => by omega
  | m + 1, j, h1, h2 => by
    unfold pspec_l34Terms_L1
    have hm : l.length ≤ maxLen := by rw [maxLen_eq]; omega
    by_cases hlt : j < l.length
    · rw [if_pos (by simpa using hlt), at_lt hlt]
      simp only [Option.bind_some, hf _ (List.getElem_mem hlt)]
      rw [if_pos (by simp; omega), wr_succ hlt hm, ← List.take_succ_eq_append_getElem hlt]
      exact l34Terms_L1 hl hf m (j + 1) (by omega) (by omega)
    · rw [if_neg (by simpa using hlt), List.take_of_length_le (by omega)]
theorem l34Both : ∀ k : Nat, (∀ l, maxLen + 2 * nsum nT l + 1 < k → nsum nT l ≤ 16777216 → l.length ≤ 1048576 → (∀ x ∈ l, nT x ≤ 1048576) → pspec_l34Terms k l = some l) ∧ (∀ x, maxLen + 2 * nT x + 2 < k → nT x ≤ 1048576 → pspec_l34Term k x = some x)
  | 0 => ⟨fun l h => by omega, fun x h => by omega⟩
  | k + 1 => by
    obtain ⟨ih1, ih2⟩ := l34Both k
    refine ⟨fun l hw hl h3 h4 => ?_, fun x hw hx => ?_⟩
    · have := nsum_len nT l
      unfold pspec_l34Terms
      have e := l34Terms_L1 (k := k) (f := pspec_l34Term k) (g := pspec_l34Terms k) (l := l) (by omega) (fun x hx => by have := nsum_mem (n := nT) hx; exact ih2 x (by omega) (h4 x hx)) k 0 (by omega) (by omega)
      rw [show ((0 : Nat) : Int) = 0 from rfl, List.take_zero] at e
      rw [e]; rfl
    · have hk := nT_kids x
      have := nsum_len nT x.gKids
      unfold pspec_l34Term
      rw [ih1 x.gKids (by omega) (by omega) (by omega) (fun y hy => by have := nsum_mem (n := nT) hy; omega)]
      cases x; rfl
theorem l34Term {k : Nat} {x : GTerm} (hw : maxLen + 2 * nT x + 2 < k) (hx : nT x ≤ 1048576) : pspec_l34Term k x = some x := (l34Both k).2 x hw hx
theorem l34Terms {k : Nat} {l : List GTerm} (hw : maxLen + 2 * nsum nT l + 2 < k) (hx : nsum nT l ≤ 1048576) : pspec_l34Terms k l = some l := by
  have := nsum_len nT l
  exact (l34Both k).1 l (by omega) (by omega) (by omega) (fun x hx => by have := nsum_mem (n := nT) hx; omega)
theorem renamed_L2 {k : Nat} {f : GTerm → Option GTerm} {x : GTerm} {a c : Int} {b : ByteArray} (hl : x.gKids.length ≤ 1048576) (hf : ∀ y ∈ x.gKids, f y = some y) :
    ∀ (m j : Nat), j ≤ x.gKids.length → x.gKids.length - j < m → pimpl_renamed_on1_pimpl_copyTerm_1_L2 k f x m (j : Int) (.mk a b c (x.gKids.take j)) = some (.done (.mk a b c x.gKids))
  | 0, j, h1, h2 => by omega
  | m + 1, j, h1, h2 => by
    unfold pimpl_renamed_on1_pimpl_copyTerm_1_L2
    have hm : x.gKids.length ≤ maxLen := by rw [maxLen_eq]; omega
    by_cases hlt : j < x.gKids.length
    · rw [if_pos (by simpa using hlt), at_lt hlt]
      simp only [Option.bind_some, hf _ (List.getElem_mem hlt)]
      rw [show (GTerm.mk a b c (x.gKids.take j)).gKids = x.gKids.take j from rfl, show (GTerm.mk a b c (x.gKids.take j)).gKind = a from rfl, show (GTerm.mk a b c (x.gKids.take j)).gName = b from rfl, show (GTerm.mk a b c (x.gKids.take j)).gNum = c from rfl]
      rw [if_pos (by simp; omega), wr_succ hlt hm, ← List.take_succ_eq_append_getElem hlt]
      exact renamed_L2 hl hf m (j + 1) (by omega) (by omega)
    · rw [if_neg (by simpa using hlt), List.take_of_length_le (by omega)]
theorem renamed : ∀ (k : Nat) (x : GTerm), maxLen + 2 * nT x + 2 < k → nT x ≤ 1048576 → pimpl_renamed_on1_pimpl_copyTerm_1 k x = some x
  | 0, x, h => by omega
  | k + 1, x, hw => by
    intro hx
    have hk := nT_kids x
    have := nsum_len nT x.gKids
    have e := renamed_L2 (k := k) (f := pimpl_renamed_on1_pimpl_copyTerm_1 k) (x := x) (a := x.gKind) (b := x.gName) (c := x.gNum) (by omega) (fun y hy => by have := nsum_mem (n := nT) hy; exact renamed k y (by omega) (by omega)) k 0 (by omega) (by omega)
    rw [show ((0 : Nat) : Int) = 0 from rfl, List.take_zero] at e
    have hx : GTerm.mk x.gKind x.gName x.gNum x.gKids = x := by cases x; rfl
    rw [hx] at e
    have e2 : pimpl_renamed_on1_pimpl_copyTerm_1_J1 k (pimpl_renamed_on1_pimpl_copyTerm_1 k) x (GTerm.mk x.gKind x.gName x.gNum []) = some x := by
      unfold pimpl_renamed_on1_pimpl_copyTerm_1_J1; rw [e]; rfl
    unfold pimpl_renamed_on1_pimpl_copyTerm_1
    simp only [pimpl_copyTerm_1, Option.bind_some, e2]
    split <;> rfl
theorem copyTerm {k : Nat} {x : GTerm} (hw : maxLen + 2 * nT x + 2 < k) (hx : nT x ≤ 1048576) : pimpl_copyTerm k x = some x := by
  unfold pimpl_copyTerm; rw [renamed k x hw hx]; rfl
def nClause (x : GClause) : Nat := 2 + nT x.gHead + nT x.gBody
theorem l34Clause {k : Nat} {x : GClause} (hw : maxLen + 2 * nClause x + 2 < k) (hx : nClause x ≤ 1048576) : pspec_l34Clause k x = some x := by
  unfold nClause at *
  unfold pspec_l34Clause
  rw [l34Term (k := k) (x := x.gHead) (by omega) (by omega), l34Term (k := k) (x := x.gBody) (by omega) (by omega)]
  rfl
theorem l34Clauses_L1 {k : Nat} {l : List GClause} (hl : l.length ≤ 1048576) (hf : ∀ x ∈ l, pspec_l34Clause k x = some x) :
    ∀ (m j : Nat), j ≤ l.length → l.length - j < m → pspec_l34Clauses_L1 k l m (l.take j) (j : Int) = some (.done l)
  | 0, j, h1, h2 => by omega
  | m + 1, j, h1, h2 => by
    unfold pspec_l34Clauses_L1
    have hm : l.length ≤ maxLen := by rw [maxLen_eq]; omega
    by_cases hlt : j < l.length
    · rw [if_pos (by simpa using hlt), at_lt hlt]
      simp only [Option.bind_some, hf _ (List.getElem_mem hlt)]
      rw [if_pos (by simp; omega), wr_succ hlt hm, ← List.take_succ_eq_append_getElem hlt]
      exact l34Clauses_L1 hl hf m (j + 1) (by omega) (by omega)
    · rw [if_neg (by simpa using hlt), List.take_of_length_le (by omega)]
theorem l34Clauses {k : Nat} {l : List GClause} (hw : maxLen + 2 * nsum nClause l + 2 < k) (hx : nsum nClause l ≤ 1048576) : pspec_l34Clauses k l = some l := by
  have := nsum_len nClause l
  unfold pspec_l34Clauses
  have e := l34Clauses_L1 (k := k) (l := l) (by omega) (fun x hx => by have := nsum_mem (n := nClause) hx; exact l34Clause (by omega) (by omega)) k 0 (by omega) (by omega)
  rw [show ((0 : Nat) : Int) = 0 from rfl, List.take_zero] at e
  rw [e]; rfl
theorem l34Strings {k : Nat} {l : List ByteArray} (hx : l.length ≤ 1048576) : pspec_l34Strings k l = some l := by
  unfold pspec_l34Strings
  rw [if_pos (by simp; omega)]
theorem copyClause {k : Nat} {x : GClause} (hw : maxLen + 2 * nClause x + 2 < k) (hx : nClause x ≤ 1048576) : pimpl_copyClause k x = some x := by
  unfold nClause at *
  unfold pimpl_copyClause
  rw [copyTerm (k := k) (x := x.gHead) (by omega) (by omega), copyTerm (k := k) (x := x.gBody) (by omega) (by omega)]
  rfl
/-- Is it in the list? -/
def has (s : List ByteArray) (x : ByteArray) : Bool := s.any (fun y => sEq x y)
theorem has_iff {s : List ByteArray} {x : ByteArray} : has s x = true ↔ x ∈ s := by
  unfold has
  rw [List.any_eq_true]
  constructor
  · rintro ⟨y, hy, e⟩; rw [sEq_iff.1 e]; exact hy
  · intro h; exact ⟨x, h, sEq_refl x⟩
theorem has_not {s : List ByteArray} {x : ByteArray} (h : has s x = false) : ¬ x ∈ s := fun hm => by rw [has_iff.2 hm] at h; cases h
theorem sEq_comm (x y : ByteArray) : sEq x y = sEq y x := by
  cases h : sEq x y with
  | true => rw [sEq_iff.1 h, sEq_refl]
  | false =>
    cases h2 : sEq y x with
    | false => rfl
    | true => rw [sEq_iff.1 h2, sEq_refl] at h; cases h
theorem sindex_L1 (k : Nat) {l : List ByteArray} (x : ByteArray) (hl : l.length ≤ maxLen) : ∀ (m j : Nat), j ≤ l.length → l.length - j < m →
    ∃ o, pslices_Index___string_string__L1 k l x m (j : Int) = some o ∧ (match o with | .ret i => 0 ≤ i ∧ x ∈ l.drop j | .done _ => ¬ x ∈ l.drop j)
  | 0, j, h1, h2 => by omega
  | m + 1, j, h1, h2 => by
    unfold pslices_Index___string_string__L1
    by_cases hlt : j < l.length
    · rw [if_pos (by simpa using hlt), at_lt hlt, List.drop_eq_getElem_cons hlt]
      simp only [Option.bind_some]
      cases e : sEq x l[j] with
      | true =>
        rw [if_pos rfl]
        exact ⟨_, rfl, by omega, by rw [List.mem_cons]; exact .inl (sEq_iff.1 e)⟩
      | false =>
        rw [if_neg (by simp), wr_succ hlt hl]
        obtain ⟨o, h3, h4⟩ := sindex_L1 k x hl m (j + 1) (by omega) (by omega)
        refine ⟨o, h3, ?_⟩
        cases o with
        | ret i => exact ⟨h4.1, List.mem_cons_of_mem _ h4.2⟩
        | done u =>
          intro hm
          rcases List.mem_cons.1 hm with hm | hm
          · rw [hm, sEq_refl] at e; cases e
          · exact h4 hm
    · rw [if_neg (by simpa using hlt), List.drop_of_length_le (by omega)]
      exact ⟨_, rfl, by simp⟩
theorem scontains {k : Nat} {l : List ByteArray} (x : ByteArray) (hl : l.length ≤ maxLen) (hk : maxLen < k) : pslices_Contains___string_string_ k l x = some (has l x) := by
  unfold pslices_Contains___string_string_ pslices_Index___string_string_
  obtain ⟨o, h1, h2⟩ := sindex_L1 k x hl k 0 (by omega) (by omega)
  rw [show ((0 : Nat) : Int) = 0 from rfl] at h1
  rw [h1]
  rw [List.drop_zero] at h2
  cases o with
  | ret i => simp [h2.1, has_iff.2 h2.2]
  | done u =>
    simp only [Option.bind_some]
    have : ¬ x ∈ l := h2
    cases h : has l x with
    | false => simp
    | true => exact absurd (has_iff.1 h) this
/-- The names of control. -/
def ctl : List ByteArray := [(bs [116, 114, 117, 101, 47, 48]), (bs [102, 97, 105, 108, 47, 48]), (bs [33, 47, 48]), (bs [44, 47, 50]), (bs [59, 47, 50]), (bs [45, 62, 47, 50]), (bs [92, 43, 47, 49]), (bs [99, 97, 108, 108, 47, 49]), (bs [99, 97, 108, 108, 47, 50]), (bs [99, 97, 108, 108, 47, 51]), (bs [99, 97, 116, 99, 104, 47, 51]), (bs [116, 104, 114, 111, 119, 47, 49]), (bs [61, 47, 50]), (bs [92, 61, 47, 50]), (bs [61, 61, 47, 50]), (bs [105, 115, 47, 50]), (bs [60, 47, 50]), (bs [61, 58, 61, 47, 50]), (bs [118, 97, 114, 47, 49]), (bs [97, 116, 111, 109, 47, 49]), (bs [119, 114, 105, 116, 101, 47, 49]), (bs [97, 115, 115, 101, 114, 116, 122, 47, 49]), (bs [114, 101, 116, 114, 97, 99, 116, 47, 49]), (bs [58, 45, 47, 50]), (bs [58, 45, 47, 49]), (bs [45, 45, 62, 47, 50])]
theorem spec_Control (k : Nat) (s : ByteArray) : pspec_Control k s = some (has ctl s) := by
  unfold pspec_Control pspec_Control_J1 has ctl
  simp only [List.any_cons, List.any_nil]
  generalize sEq s (bs [116, 114, 117, 101, 47, 48]) = b0
  generalize sEq s (bs [102, 97, 105, 108, 47, 48]) = b1
  generalize sEq s (bs [33, 47, 48]) = b2
  generalize sEq s (bs [44, 47, 50]) = b3
  generalize sEq s (bs [59, 47, 50]) = b4
  generalize sEq s (bs [45, 62, 47, 50]) = b5
  generalize sEq s (bs [92, 43, 47, 49]) = b6
  generalize sEq s (bs [99, 97, 108, 108, 47, 49]) = b7
  generalize sEq s (bs [99, 97, 108, 108, 47, 50]) = b8
  generalize sEq s (bs [99, 97, 108, 108, 47, 51]) = b9
  generalize sEq s (bs [99, 97, 116, 99, 104, 47, 51]) = b10
  generalize sEq s (bs [116, 104, 114, 111, 119, 47, 49]) = b11
  generalize sEq s (bs [61, 47, 50]) = b12
  generalize sEq s (bs [92, 61, 47, 50]) = b13
  generalize sEq s (bs [61, 61, 47, 50]) = b14
  generalize sEq s (bs [105, 115, 47, 50]) = b15
  generalize sEq s (bs [60, 47, 50]) = b16
  generalize sEq s (bs [61, 58, 61, 47, 50]) = b17
  generalize sEq s (bs [118, 97, 114, 47, 49]) = b18
  generalize sEq s (bs [97, 116, 111, 109, 47, 49]) = b19
  generalize sEq s (bs [119, 114, 105, 116, 101, 47, 49]) = b20
  generalize sEq s (bs [97, 115, 115, 101, 114, 116, 122, 47, 49]) = b21
  generalize sEq s (bs [114, 101, 116, 114, 97, 99, 116, 47, 49]) = b22
  generalize sEq s (bs [58, 45, 47, 50]) = b23
  generalize sEq s (bs [58, 45, 47, 49]) = b24
  generalize sEq s (bs [45, 45, 62, 47, 50]) = b25
  cases b0 with
  | true => simp
  | false =>
  simp only [Bool.false_eq_true, if_false, if_true, Bool.false_or, Bool.or_false]
  cases b1 with
  | true => simp
  | false =>
  simp only [Bool.false_eq_true, if_false, if_true, Bool.false_or, Bool.or_false]
  cases b2 with
  | true => simp
  | false =>
  simp only [Bool.false_eq_true, if_false, if_true, Bool.false_or, Bool.or_false]
  cases b3 with
  | true => simp
  | false =>
  simp only [Bool.false_eq_true, if_false, if_true, Bool.false_or, Bool.or_false]
  cases b4 with
  | true => simp
  | false =>
  simp only [Bool.false_eq_true, if_false, if_true, Bool.false_or, Bool.or_false]
  cases b5 with
  | true => simp
  | false =>
  simp only [Bool.false_eq_true, if_false, if_true, Bool.false_or, Bool.or_false]
  cases b6 with
  | true => simp
  | false =>
  simp only [Bool.false_eq_true, if_false, if_true, Bool.false_or, Bool.or_false]
  cases b7 with
  | true => simp
  | false =>
  simp only [Bool.false_eq_true, if_false, if_true, Bool.false_or, Bool.or_false]
  cases b8 with
  | true => simp
  | false =>
  simp only [Bool.false_eq_true, if_false, if_true, Bool.false_or, Bool.or_false]
  cases b9 with
  | true => simp
  | false =>
  simp only [Bool.false_eq_true, if_false, if_true, Bool.false_or, Bool.or_false]
  cases b10 with
  | true => simp
  | false =>
  simp only [Bool.false_eq_true, if_false, if_true, Bool.false_or, Bool.or_false]
  cases b11 with
  | true => simp
  | false =>
  simp only [Bool.false_eq_true, if_false, if_true, Bool.false_or, Bool.or_false]
  cases b12 with
  | true => simp
  | false =>
  simp only [Bool.false_eq_true, if_false, if_true, Bool.false_or, Bool.or_false]
  cases b13 with
  | true => simp
  | false =>
  simp only [Bool.false_eq_true, if_false, if_true, Bool.false_or, Bool.or_false]
  cases b14 with
  | true => simp
  | false =>
  simp only [Bool.false_eq_true, if_false, if_true, Bool.false_or, Bool.or_false]
  cases b15 with
  | true => simp
  | false =>
  simp only [Bool.false_eq_true, if_false, if_true, Bool.false_or, Bool.or_false]
  cases b16 with
  | true => simp
  | false =>
  simp only [Bool.false_eq_true, if_false, if_true, Bool.false_or, Bool.or_false]
  cases b17 with
  | true => simp
  | false =>
  simp only [Bool.false_eq_true, if_false, if_true, Bool.false_or, Bool.or_false]
  cases b18 with
  | true => simp
  | false =>
  simp only [Bool.false_eq_true, if_false, if_true, Bool.false_or, Bool.or_false]
  cases b19 with
  | true => simp
  | false =>
  simp only [Bool.false_eq_true, if_false, if_true, Bool.false_or, Bool.or_false]
  cases b20 with
  | true => simp
  | false =>
  simp only [Bool.false_eq_true, if_false, if_true, Bool.false_or, Bool.or_false]
  cases b21 with
  | true => simp
  | false =>
  simp only [Bool.false_eq_true, if_false, if_true, Bool.false_or, Bool.or_false]
  cases b22 with
  | true => simp
  | false =>
  simp only [Bool.false_eq_true, if_false, if_true, Bool.false_or, Bool.or_false]
  cases b23 with
  | true => simp
  | false =>
  simp only [Bool.false_eq_true, if_false, if_true, Bool.false_or, Bool.or_false]
  cases b24 with
  | true => simp
  | false =>
  simp only [Bool.false_eq_true, if_false, if_true, Bool.false_or, Bool.or_false]
  cases b25 with
  | true => simp
  | false =>
  simp only [Bool.false_eq_true, if_false, if_true, Bool.false_or, Bool.or_false]
/-! what is drawn -/
/-- Not by computation: the kernel must not look into the conditions. -/
theorem obs {α β : Type} {a : α} {f : α → Option β} : (some a).bind f = f a := by
  cases h : f a with
  | none => exact h
  | some b => exact h
theorem kk {n k : Nat} (m : Nat) (h : n < k - maxLen) (hm : m ≤ n := by decide) : maxLen + m < k := by
  rw [Nat.add_comm]
  exact Nat.add_lt_of_lt_sub (Nat.lt_of_le_of_lt hm h)
theorem kz {n k : Nat} (h : n < k - maxLen) : maxLen < k := by
  have := kk 0 h (Nat.zero_le _)
  exact this
theorem kle {n k : Nat} (m : Nat) (h : n < k - maxLen) (hm : m ≤ n := by decide) : m < k - maxLen := Nat.lt_of_le_of_lt hm h
theorem band255 (x : Int) : 0 ≤ band .i64 x 255 ∧ band .i64 x 255 ≤ 255 := by
  have h : ∀ b : BitVec 64, (b &&& BitVec.ofInt 64 255).toNat ≤ 255 := by
    intro b
    rw [BitVec.toNat_and]
    exact Nat.and_le_right
  have e : band .i64 x 255 = IntKind.wrap .i64 ((BitVec.ofInt 64 x &&& BitVec.ofInt 64 255).toNat) := rfl
  have h1 := h (BitVec.ofInt 64 x)
  generalize (BitVec.ofInt 64 x &&& BitVec.ofInt 64 255).toNat = n at e h1
  have e2 : wr.i64 (n : Int) = n := wr_i64 (by omega) (by omega)
  rw [e, show IntKind.wrap .i64 (n : Int) = wr.i64 (n : Int) from rfl, e2]
  omega

theorem at_int {α : Type} {l : List α} {v : Int} (h1 : 0 ≤ v) (h2 : v < (l.length : Int)) : ∃ (h : v.toNat < l.length), at' l v = some l[v.toNat] := by
  obtain ⟨n, rfl⟩ := Int.eq_ofNat_of_zero_le h1
  exact ⟨by omega, at_lt (by omega)⟩
/-- A cursor is right. -/
def CurOk (c : GL01Cur) : Prop := c.gB.length ≤ 1048576 ∧ 0 ≤ c.gI ∧ c.gI ≤ (c.gB.length : Int)

theorem l01New_L1 (k : Nat) (a : List Int) (hl : a.length ≤ 1048576) : ∀ (m j : Nat) (h : Int), j ≤ a.length → a.length - j < m → ∃ r, pspec_l01New_L1 k a m h (j : Int) = some (.done r)
  | 0, j, h, h1, h2 => by omega
  | m + 1, j, h, h1, h2 => by
    rw [pspec_l01New_L1]
    have hM := maxLen_eq
    by_cases c : j < a.length
    · rw [if_pos (by simpa using c)]
      split
      · rw [at_lt c, wr_succ c (by omega)]
        exact l01New_L1 k a hl m (j + 1) _ (by omega) (by omega)
      · exact ⟨_, rfl⟩
    · rw [if_neg (by simpa using c)]
      exact ⟨_, rfl⟩
theorem l01New {k : Nat} {a : List Int} (hl : a.length ≤ 1048576) (hk : maxLen < k) : ∃ c, pspec_l01New k a = some c ∧ CurOk c := by
  unfold pspec_l01New
  have hM := maxLen_eq
  obtain ⟨r, e⟩ := l01New_L1 k a hl k 0 (wr.i64 (95101 + (a.length : Int))) (by omega) (by omega)
  rw [show ((0 : Nat) : Int) = 0 from rfl] at e
  rw [e]
  exact ⟨_, rfl, hl, by simp, by simp⟩
theorem l01Byte {c : GL01Cur} (h : CurOk c) (k : Nat) : ∃ c' v, pspec_l01Byte k c = some (c', v) ∧ CurOk c' ∧ 0 ≤ v ∧ v ≤ 255 := by
  unfold pspec_l01Byte
  obtain ⟨h1, h2, h3⟩ := h
  by_cases g : c.gI < (c.gB.length : Int)
  · rw [if_pos (by simpa using g)]
    obtain ⟨hn, e⟩ := at_int h2 g
    rw [e]
    refine ⟨_, _, rfl, ⟨h1, ?_, ?_⟩, (band255 _).1, (band255 _).2⟩
    · simp only; rw [wr_i64 (by omega) (by omega)]; omega
    · simp only; rw [wr_i64 (by omega) (by omega)]; omega
  · rw [if_neg (by simpa using g)]
    exact ⟨_, _, rfl, ⟨h1, h2, h3⟩, (band255 _).1, (band255 _).2⟩
theorem l01Below {c : GL01Cur} (h : CurOk c) (k : Nat) (n : Int) : ∃ c' v, pspec_l01Below k c n = some (c', v) ∧ CurOk c' ∧ 0 ≤ v ∧ (0 < n → v < n) ∧ (n ≤ 0 → v = 0) := by
  unfold pspec_l01Below
  by_cases g : n ≤ 0
  · rw [if_pos (by simpa using g)]
    exact ⟨_, _, rfl, h, by omega, by omega, fun _ => rfl⟩
  rw [if_neg (by simpa using g)]
  split
  · obtain ⟨c', v, e, h1, h2, h3⟩ := l01Byte h k
    rw [e]
    simp only [Option.bind_some]
    rw [if_pos (by omega)]
    exact ⟨_, _, rfl, h1, Int.tmod_nonneg _ h2, fun _ => Int.tmod_lt_of_pos _ (by omega), by omega⟩
  · obtain ⟨c1, v1, e1, h1, l1, u1⟩ := l01Byte h k
    obtain ⟨c2, v2, e2, h2, l2, u2⟩ := l01Byte h1 k
    obtain ⟨c3, v3, e3, h3, l3, u3⟩ := l01Byte h2 k
    obtain ⟨c4, v4, e4, h4, l4, u4⟩ := l01Byte h3 k
    simp only [e1, e2, e3, e4, Option.bind_some]
    rw [if_pos (by omega)]
    have w1 : wr.i64 (v1 * 16777216) = v1 * 16777216 := wr_i64 (by omega) (by omega)
    have w2 : wr.i64 (v2 * 65536) = v2 * 65536 := wr_i64 (by omega) (by omega)
    have w3 : wr.i64 (v3 * 256) = v3 * 256 := wr_i64 (by omega) (by omega)
    rw [w1, w2, w3, wr_i64 (x := v1 * 16777216 + v2 * 65536) (by omega) (by omega), wr_i64 (x := v1 * 16777216 + v2 * 65536 + v3 * 256) (by omega) (by omega), wr_i64 (by omega) (by omega)]
    exact ⟨_, _, rfl, h4, Int.tmod_nonneg _ (by omega), fun _ => Int.tmod_lt_of_pos _ (by omega), by omega⟩
theorem at_mem {α : Type} {l : List α} {v : Int} (h1 : 0 ≤ v) (h2 : v < (l.length : Int)) : ∃ x, at' l v = some x ∧ x ∈ l := by
  obtain ⟨hn, e⟩ := at_int h1 h2
  exact ⟨_, e, List.getElem_mem hn⟩
theorem l01Pick {c : GL01Cur} (h : CurOk c) (k : Nat) {l : List ByteArray} (hl : 0 < l.length) : ∃ c' s, pspec_l01Pick k c l = some (c', s) ∧ CurOk c' ∧ s ∈ l := by
  unfold pspec_l01Pick
  obtain ⟨c', v, e, h1, h2, h3, h4⟩ := l01Below h k (l.length : Int)
  obtain ⟨s, e2, h5⟩ := at_mem h2 (h3 (by omega))
  simp only [e, e2, Option.bind_some]
  exact ⟨_, _, rfl, h1, h5⟩
theorem l01PickInt {c : GL01Cur} (h : CurOk c) (k : Nat) {l : List Int} (hl : 0 < l.length) : ∃ c' s, pspec_l01PickInt k c l = some (c', s) ∧ CurOk c' ∧ s ∈ l := by
  unfold pspec_l01PickInt
  obtain ⟨c', v, e, h1, h2, h3, h4⟩ := l01Below h k (l.length : Int)
  obtain ⟨s, e2, h5⟩ := at_mem h2 (h3 (by omega))
  simp only [e, e2, Option.bind_some]
  exact ⟨_, _, rfl, h1, h5⟩
theorem l01Once {c : GL01Cur} (h : CurOk c) (k : Nat) (n : Int) : ∃ c' b, pspec_l01Once k c n = some (c', b) ∧ CurOk c' := by
  unfold pspec_l01Once
  obtain ⟨c', v, e, h1, h2, h3, h4⟩ := l01Below h k n
  simp only [e, Option.bind_some]
  exact ⟨_, _, rfl, h1⟩
theorem ok_mk {a : Int} {b : ByteArray} {c : Int} {l : List GTerm} (h1 : -9223372036854775808 ≤ a ∧ a ≤ 9223372036854775807) (h2 : b.size ≤ 9223372036854775807) (h3 : -9223372036854775808 ≤ c ∧ c ≤ 9223372036854775807) (h4 : l.length ≤ 9223372036854775807) (h5 : ∀ x ∈ l, x.ok) : (GTerm.mk a b c l).ok := by
  have e1 : IntKind.i64.min = -9223372036854775808 := rfl
  have e2 : IntKind.i64.max = 9223372036854775807 := rfl
  have hM := maxLen_eq
  exact .mk _ _ _ _ (by unfold okI; omega) (by unfold okFs; omega) (by unfold okI; omega) (by omega) h5
/-- The head of a right term. -/
theorem one_ok {x : GTerm} (h : one x = true) : (1 ≤ x.gKind ∧ x.gKind ≤ 4) ∧ x.gName.size ≤ 20 ∧ (-999999999 ≤ x.gNum ∧ x.gNum ≤ 999999999) ∧ x.gKids.length ≤ 5 := by
  have hin : ∀ {x a b : Int}, inR x a b = true → a ≤ x ∧ x ≤ b := fun h => of_decide_eq_true h
  have hz : ∀ {s : ByteArray}, sEq s (bs []) = true → s.size ≤ 20 := fun h => by rw [sEq_iff.1 h]; decide
  unfold one at h
  split at h
  · simp only [Bool.and_eq_true, beq_iff_eq] at h
    have := hin h.1; have := hz h.2.1; omega
  split at h
  · simp only [Bool.and_eq_true, beq_iff_eq, decide_eq_true_eq] at h
    have := h.1.2.2; omega
  split at h
  · simp only [Bool.and_eq_true, beq_iff_eq] at h
    have := hin h.1; have := hz h.2.1; omega
  split at h
  · simp only [Bool.and_eq_true, beq_iff_eq, decide_eq_true_eq] at h
    have := h.1.2.2; have := hin h.2.2; omega
  · cases h
mutual
theorem gT_ok : ∀ (x : GTerm) (d : Int), gT d x = true → x.ok
  | .mk a b c l, d, h => by
    rw [gT_eq] at h
    simp only [Bool.and_eq_true] at h
    have := one_ok h.2.1
    simp only [mk_gKind, mk_gName, mk_gNum, mk_gKids] at this
    exact ok_mk (by omega) (by omega) (by omega) (by omega) (gTs_ok l (d + 1) h.2.2)
theorem gTs_ok : ∀ (l : List GTerm) (d : Int), gTs d l = true → ∀ x ∈ l, x.ok
  | [], d, h => fun x hx => by cases hx
  | x :: l, d, h => fun y hy => by
    rw [gTs, Bool.and_eq_true] at h
    cases hy with
    | head => exact gT_ok x d h.1
    | tail _ hy => exact gTs_ok l d h.2 y hy
end
theorem tOk_ok {x : GTerm} (h : tOk x = true) : x.ok ∧ nT x ≤ 399 := by
  unfold tOk at h
  simp only [Bool.and_eq_true, decide_eq_true_eq] at h
  exact ⟨gT_ok x 1 h.2, by omega⟩
theorem gTs_all {d : Int} : ∀ {l : List GTerm}, (∀ y ∈ l, gT d y = true) → gTs d l = true
  | [], _ => by rw [gTs]
  | x :: l, h => by rw [gTs, h x (List.mem_cons_self ..), gTs_all (fun y hy => h y (List.mem_cons_of_mem _ hy))]; rfl

theorem one_var {n : Int} (h : 0 ≤ n ∧ n ≤ 99999) : one (.mk 1 (bs []) n []) = true := by
  unfold one
  rw [mk_gKind, mk_gName, mk_gNum, mk_gKids, if_pos rfl, inR_t h, sEq_refl]; rfl
theorem one_atom {s : ByteArray} (h : nmOk s) : one (.mk 2 s 0 []) = true := by
  unfold one
  rw [mk_gKind, mk_gName, mk_gNum, mk_gKids, if_neg (by decide), if_pos rfl, decide_eq_true h]; rfl
theorem one_int {n : Int} (h : -999999999 ≤ n ∧ n ≤ 999999999) : one (.mk 3 (bs []) n []) = true := by
  unfold one
  rw [mk_gKind, mk_gName, mk_gNum, mk_gKids, if_neg (by decide), if_neg (by decide), if_pos rfl, inR_t h, sEq_refl]; rfl
theorem one_struct {s : ByteArray} {l : List GTerm} (h : nmOk s) (h1 : 1 ≤ l.length) (h2 : l.length ≤ 5) : one (.mk 4 s 0 l) = true := by
  unfold one
  rw [mk_gKind, mk_gName, mk_gNum, mk_gKids, if_neg (by decide), if_neg (by decide), if_neg (by decide), if_pos rfl, decide_eq_true h, inR_t (by omega)]; rfl
/-- A term that was made, so high at most. -/
def MadeT (d : Nat) (x : GTerm) : Prop := (∀ e : Int, e + (d : Int) ≤ 40 → gT e x = true) ∧ nT x + 1 ≤ 4 ^ d
theorem MadeT.leaf {x : GTerm} (d : Nat) (h1 : one x = true) (h2 : x.gKids = []) : MadeT d x := by
  refine ⟨fun e he => ?_, ?_⟩
  · rw [gT_eq, h1, h2, gTs, decide_eq_true (by omega)]; rfl
  · rw [nT_kids, h2]; exact Nat.one_le_pow _ _ (by omega)
theorem MadeT.node {d : Nat} {b : ByteArray} {l : List GTerm} (h1 : nmOk b) (h2 : 1 ≤ l.length) (h3 : l.length ≤ 3) (h4 : ∀ y ∈ l, MadeT d y) : MadeT (d + 1) (.mk 4 b 0 l) := by
  refine ⟨fun e he => ?_, ?_⟩
  · rw [gT_eq, mk_gKids, gTs_all (fun y hy => (h4 y hy).1 (e + 1) (by omega)), decide_eq_true (by omega), one_struct h1 h2 (by omega)]
    rfl
  · rw [nT_kids, mk_gKids]
    have : ∀ m : List GTerm, (∀ y ∈ m, MadeT d y) → nsum nT m ≤ m.length * 4 ^ d := by
      intro m
      induction m with
      | nil => intro _; exact Nat.zero_le _
      | cons x m ih =>
        intro hm
        have a := (hm x (List.mem_cons_self ..)).2
        have b := ih (fun y hy => hm y (List.mem_cons_of_mem _ hy))
        rw [nsum, List.length_cons, Nat.succ_mul]
        omega
    have a := this l h4
    have b : l.length * 4 ^ d ≤ 3 * 4 ^ d := Nat.mul_le_mul_right _ h3
    have c : 1 ≤ 4 ^ d := Nat.one_le_pow _ _ (by omega)
    rw [Nat.pow_succ]
    omega
theorem MadeT.up {d : Nat} {x : GTerm} (h : MadeT d x) (e : Nat) (he : d ≤ e) : MadeT e x :=
  ⟨fun f hf => h.1 f (by omega), Nat.le_trans h.2 (Nat.pow_le_pow_right (by omega) he)⟩
theorem MadeT.right {x : GTerm} (h : MadeT 3 x) : tOk x = true := by
  have := h.2
  unfold tOk
  rw [h.1 1 (by omega), decide_eq_true (by omega)]
  rfl
theorem names_ok {s : ByteArray} (h : s ∈ [(bs [97]), (bs [98]), (bs [91, 93]), (bs [43]), (bs [66, 105, 103]), bs [120], (bs [58, 45]), (bs [61, 46, 46]), (bs [61]), (bs [44]), (bs [102]), (bs [59]), (bs [103]), (bs [45]), bs [46], bs [115]]) : nmOk s := by
  have : ∀ s ∈ [(bs [97]), (bs [98]), (bs [91, 93]), (bs [43]), (bs [66, 105, 103]), bs [120], (bs [58, 45]), (bs [61, 46, 46]), (bs [61]), (bs [44]), (bs [102]), (bs [59]), (bs [103]), (bs [45]), bs [46], bs [115]], nmOk s := by decide +kernel
  exact this s h
theorem atom_made {s : ByteArray} (h : nmOk s) (d : Nat) : MadeT d (.mk 2 s 0 []) :=
  MadeT.leaf d (one_atom h) rfl

theorem l03Made_L2 {k d : Nat} {F : GL01Cur → Int → Option (GL01Cur × GTerm)} (hd : wr.i64 (((d + 1 : Nat) : Int) - 1) = (d : Int))
    (hF : ∀ c, CurOk c → ∃ c' t, F c (d : Int) = some (c', t) ∧ CurOk c' ∧ MadeT d t) {s : ByteArray} :
    ∀ (m j : Nat) (l : List GTerm) (c : GL01Cur), 4 - j < m → j ≤ 3 → CurOk c → l.length = j → (∀ y ∈ l, MadeT d y) →
      ∃ t c', pspec_l03Made_L2 k F ((d + 1 : Nat) : Int) m (j : Int) (.mk 4 s 0 l) c = some (.done (t, c')) ∧ CurOk c' ∧ ∃ l', t = .mk 4 s 0 l' ∧ l'.length ≤ 3 ∧ (1 ≤ j ∨ 1 ≤ l'.length) ∧ j ≤ l'.length ∧ ∀ y ∈ l', MadeT d y
  | 0, j, l, c, h1, h2, h3, h4, h5 => by omega
  | m + 1, j, l, c, h1, h2, h3, h4, h5 => by
    rw [pspec_l03Made_L2]
    obtain ⟨c', v, e, g1, g2, g3, _⟩ := l01Below h3 k 3
    have g3 := g3 (by decide)
    simp only [e, Option.bind_some]
    rw [wr_i64 (x := 1 + v) (by omega) (by omega)]
    by_cases q : (j : Int) < 1 + v
    · rw [if_pos (by simpa using q), mk_gKids, if_pos (by rw [decide_eq_true_eq]; omega), hd]
      obtain ⟨c2, t, e2, g4, g5⟩ := hF c' g1
      simp only [e2, Option.bind_some, mk_gKind, mk_gName, mk_gNum]
      rw [if_pos (by simp; omega), wr_i64 (by omega) (by omega), show ((j : Int) + 1) = ((j + 1 : Nat) : Int) by omega]
      obtain ⟨t', c3, e3, g6, l', rfl, g7, g8, g9, g10⟩ := l03Made_L2 (k := k) hd hF (s := s) m (j + 1) (l ++ [t]) c2 (by omega) (by omega) g4 (by simp; omega) (by
        intro y hy
        rcases List.mem_append.1 hy with hy | hy
        · exact h5 y hy
        · rw [List.mem_singleton.1 hy]; exact g5)
      exact ⟨_, c3, e3, g6, l', rfl, g7, .inr (by omega), by omega, g10⟩
    · rw [if_neg (by simpa using q)]
      exact ⟨_, _, rfl, g1, l, rfl, by omega, .inl (by omega), by omega, h5⟩

theorem l03Made : ∀ (d k : Nat), d ≤ 3 → d + 8 ≤ k → ∀ c, CurOk c → ∃ c' t, pspec_l03Made k c (d : Int) = some (c', t) ∧ CurOk c' ∧ MadeT d t
  | _, 0, _, h2, _, _ => by omega
  | d, k + 1, h1, h2, c, h => by
    rw [pspec_l03Made]
    obtain ⟨c1, v, e, g1, g2, g3, _⟩ := l01Below h k 10
    have g3 := g3 (by decide)
    simp only [e, Option.bind_some]
    have leaf : ∀ u : Int, 0 ≤ u → u < 6 → ∃ c' t, pspec_l03Made_J1 k (pspec_l03Made k) (c1, v) (d : Int) u = some (c', t) ∧ CurOk c' ∧ MadeT d t := by
      intro u u1 u2
      unfold pspec_l03Made_J1
      split
      · obtain ⟨c2, w, e2, g4, g5, g6, _⟩ := l01Below g1 k 4
        have g6 := g6 (by decide)
        simp only [e2, Option.bind_some, pspec_l03Var]
        refine ⟨_, _, rfl, g4, MadeT.leaf d (one_var (by omega)) rfl⟩
      split
      · rw [if_pos (by decide)]
        obtain ⟨c2, s, e2, g4, g5⟩ := l01Pick g1 k (l := [(bs [97]), (bs [98]), (bs [91, 93]), (bs [43]), (bs [66, 105, 103]), (bs [120, 32, 121]).extract ((0 : Int) : Int).toNat (1 : Int).toNat, (bs [58, 45]), (bs [61, 46, 46])]) (by decide)
        simp only [e2, Option.bind_some, pspec_l03Atom]
        refine ⟨_, _, rfl, g4, atom_made (names_ok ?_) d⟩
        have hx : (bs [120, 32, 121]).extract ((0 : Int) : Int).toNat (1 : Int).toNat = bs [120] := by decide
        rw [hx] at g5
        simp only [List.mem_cons, List.not_mem_nil, or_false] at g5 ⊢
        rcases g5 with h | h | h | h | h | h | h | h <;> simp [h]
      · rw [if_pos (by rw [decide_eq_true_eq]; exact u2)]
        obtain ⟨c2, s, e2, g4, g5⟩ := l01PickInt g1 k (l := [0, 1, -7, 999999999]) (by decide)
        simp only [e2, Option.bind_some, pspec_l03Num]
        refine ⟨_, _, rfl, g4, MadeT.leaf d (one_int (by
          simp only [List.mem_cons, List.not_mem_nil, or_false] at g5
          omega)) rfl⟩
    cases d with
    | zero =>
      rw [if_pos (by decide), if_pos (by decide)]
      have := Int.tmod_nonneg 6 g2
      have := Int.tmod_lt_of_pos v (b := 6) (by decide)
      exact leaf _ (by omega) (by omega)
    | succ d =>
      rw [if_neg (by rw [decide_eq_true_eq]; omega)]
      have hd : wr.i64 (((d + 1 : Nat) : Int) - 1) = (d : Int) := by rw [wr_i64 (by omega) (by omega)]; omega
      have hF := l03Made d k (by omega) (by omega)
      by_cases u : v < 6
      · exact leaf v g2 u
      unfold pspec_l03Made_J1
      rw [if_neg (by rw [decide_eq_true_eq]; omega), if_neg (by rw [decide_eq_true_eq]; omega), if_neg (by rw [decide_eq_true_eq]; omega)]
      have two : ∀ (s : ByteArray) (x y : GTerm), nmOk s → MadeT d x → MadeT d y → MadeT (d + 1) (.mk 4 s 0 [x, y]) := fun s x y h1 h2 h3 =>
        MadeT.node h1 (by simp) (by simp) (by
          intro z hz
          simp only [List.mem_cons, List.not_mem_nil, or_false] at hz
          rcases hz with rfl | rfl
          · exact h2
          · exact h3)
      split
      · rw [hd]
        obtain ⟨c2, x, e2, g4, g5⟩ := hF c1 g1
        obtain ⟨c3, y, e3, g6, g7⟩ := hF c2 g4
        simp only [e2, e3, Option.bind_some, pspec_l03Two]
        exact ⟨_, _, rfl, g6, two _ _ _ (names_ok (by simp)) g5 g7⟩
      split
      · obtain ⟨c1', s, e1, g1', gs⟩ := l01Pick g1 k (l := [(bs [43]), (bs [61]), (bs [44]), (bs [102]), (bs [59])]) (by decide)
        rw [hd]
        obtain ⟨c2, x, e2, g4, g5⟩ := hF c1' g1'
        obtain ⟨c3, y, e3, g6, g7⟩ := hF c2 g4
        simp only [e1, e2, e3, Option.bind_some, pspec_l03Two]
        refine ⟨_, _, rfl, g6, two _ _ _ (names_ok ?_) g5 g7⟩
        simp only [List.mem_cons, List.not_mem_nil, or_false] at gs ⊢
        rcases gs with h | h | h | h | h <;> simp [h]
      · obtain ⟨c1', s, e1, g1', gs⟩ := l01Pick g1 k (l := [(bs [102]), (bs [103]), (bs [45]), (bs [91, 93])]) (by decide)
        simp only [e1, Option.bind_some]
        obtain ⟨t, c', e2, g4, l', rfl, g5, g6, g7, g8⟩ := l03Made_L2 (k := k) hd hF (s := s) k 0 [] c1' (by omega) (by omega) g1' rfl (fun y hy => by cases hy)
        rw [show ((0 : Nat) : Int) = 0 from rfl] at e2
        rw [e2]
        refine ⟨_, _, rfl, g4, MadeT.node (names_ok ?_) (by omega) g5 g8⟩
        simp only [List.mem_cons, List.not_mem_nil, or_false] at gs ⊢
        rcases gs with h | h | h | h <;> simp [h]
theorem l03Term {c : GL01Cur} (h : CurOk c) {k : Nat} (hk : 1000000 < k - maxLen) : ∃ c' t, pspec_l03Term k c = some (c', t) ∧ CurOk c' ∧ MadeT 3 t := by
  unfold pspec_l03Term
  obtain ⟨c', t, e, h1, h2⟩ := l03Made 3 k (by omega) (by omega) c h
  have h3 := h2.2
  rw [show ((3 : Nat) : Int) = 3 from rfl] at e
  simp only [e, Option.bind_some]
  rw [spec_TermOk (by omega) (gT_ok t 1 (h2.1 1 (by omega))), h2.right]
  exact ⟨_, _, rfl, h1, h2⟩
theorem sameTerm : ∀ (k : Nat) (x : GTerm), maxLen + 2 * nT x + 2 < k → nT x ≤ Huge → pspec_SameTerm k x x = some true
  | 0, x, hw, h => by omega
  | k + 1, x, hw, h => by
    have hk := nT_kids x
    have := nsum_len nT x.gKids
    unfold pspec_SameTerm
    have e := eq2 (f := pspec_SameTerm k) (L := pspec_SameTerm_L1 k (pspec_SameTerm k) x x) (l := x.gKids) (by omega) (fun y hy => by have := nsum_mem (n := nT) hy; exact sameTerm k y (by omega) (by omega)) (fun m i => rfl) (k := k) (by omega)
    rw [if_neg (by simp), if_neg (by simp [sEq_refl]), if_neg (by simp)]
    exact e
/-- A term that may be wrong, but not large. -/
def AnyT (x : GTerm) : Prop := x.ok ∧ nT x ≤ 110
theorem MadeT.any {x : GTerm} (h : MadeT 3 x) : AnyT x := ⟨gT_ok x 1 (h.1 1 (by omega)), by have := h.2; omega⟩
theorem l03Any_L1 {k : Nat} {g : GL01Cur × Int} (h1 : 0 ≤ g.2) : ∀ (m j : Nat) (x : GTerm), 42 - j < m → j ≤ 41 → x.ok → nT x ≤ 63 + j → ∃ y, pspec_l03Any_L1 k g m (j : Int) x = some (.done y) ∧ AnyT y
  | 0, j, x, a1, a2, a3, a4 => by omega
  | m + 1, j, x, a1, a2, a3, a4 => by
    rw [pspec_l03Any_L1, if_pos (by decide)]
    have g1 := Int.tmod_nonneg 4 h1
    have g2 := Int.tmod_lt_of_pos g.2 (b := 4) (by decide)
    rw [wr_i64 (x := 38 + Int.tmod g.2 4) (by omega) (by omega)]
    by_cases q : (j : Int) < 38 + Int.tmod g.2 4
    · rw [if_pos (by simpa using q), wr_i64 (by omega) (by omega), show ((j : Int) + 1) = ((j + 1 : Nat) : Int) by omega]
      refine l03Any_L1 h1 m (j + 1) _ (by omega) (by omega) (ok_mk (by omega) (by decide) (by omega) (by simp) ?_) ?_
      · intro y hy; rw [List.mem_singleton.1 hy]; exact a3
      · rw [nT, nTs, nTs]; omega
    · rw [if_neg (by simpa using q)]
      exact ⟨_, rfl, a3, by omega⟩
theorem l03Any {c : GL01Cur} (h : CurOk c) {k : Nat} (hk : 1000000 < k - maxLen) : ∃ c' t, pspec_l03Any k c = some (c', t) ∧ CurOk c' ∧ AnyT t := by
  unfold pspec_l03Any
  obtain ⟨c1, v, e1, h1, l1, u1, _⟩ := l01Below h k 12
  obtain ⟨c2, w, e2, h2, l2, u2, _⟩ := l01Below h1 k 60
  obtain ⟨c3, t, e3, h3, h4⟩ := l03Made 3 k (by omega) (by omega) c2 h2
  rw [show ((3 : Nat) : Int) = 3 from rfl] at e3
  simp only [e1, e2, e3, Option.bind_some]
  have ok := gT_ok t 1 (h4.1 1 (by omega))
  have hn := h4.2
  obtain ⟨o1, o2, o3, o4, o5⟩ : okI .i64 t.gKind ∧ okFs t.gName ∧ okI .i64 t.gNum ∧ t.gKids.length ≤ maxLen ∧ ∀ y ∈ t.gKids, y.ok := by
    clear hn h4
    cases ok with | mk a b c l h1 h2 h3 h4 h5 => exact ⟨h1, h2, h3, h4, h5⟩
  have kk : ∀ q : Int, 0 ≤ q → q ≤ 1000000000 → okI .i64 q := fun q a b => by
    have e1 : IntKind.i64.min = -9223372036854775808 := rfl
    have e2 : IntKind.i64.max = 9223372036854775807 := rfl
    unfold okI; omega
  have nk : ∀ a b c, nT (.mk a b c t.gKids) = nT t := fun a b c => by rw [nT_kids, mk_gKids, ← nT_kids]
  split
  · rw [if_pos (by decide)]
    have := Int.tmod_nonneg 6 l2
    have := Int.tmod_lt_of_pos w (b := 6) (by decide)
    exact ⟨_, _, rfl, h3, .mk _ _ _ _ (kk _ (by omega) (by omega)) o2 o3 o4 o5, by rw [nk]; omega⟩
  split
  · rw [if_pos (by decide)]
    have g1 := Int.tmod_nonneg 4 l2
    have g2 := Int.tmod_lt_of_pos w (b := 4) (by decide)
    obtain ⟨s, e4, hs⟩ := at_mem (l := [(bs []), (bs [97, 32, 98]), (bs [39]), (bs [97, 97, 97, 97, 97, 97, 97, 97, 97, 97, 97, 97, 97, 97, 97, 97, 97, 97, 97, 97, 97])]) g1 (by simpa using g2)
    simp only [e4, Option.bind_some]
    refine ⟨_, _, rfl, h3, .mk _ _ _ _ o1 ?_ o3 o4 o5, by rw [nk]; omega⟩
    have : ∀ s ∈ [(bs []), (bs [97, 32, 98]), (bs [39]), (bs [97, 97, 97, 97, 97, 97, 97, 97, 97, 97, 97, 97, 97, 97, 97, 97, 97, 97, 97, 97, 97])], s.size ≤ 100 := by decide
    have := this s hs
    have hM := maxLen_eq
    unfold okFs; omega
  split
  · rw [if_pos (by decide)]
    have g1 := Int.tmod_nonneg 3 l2
    have g2 := Int.tmod_lt_of_pos w (b := 3) (by decide)
    obtain ⟨s, e4, hs⟩ := at_mem (l := [-1, 100000, 1000000000]) g1 (by simpa using g2)
    simp only [e4, Option.bind_some]
    refine ⟨_, _, rfl, h3, .mk _ _ _ _ o1 o2 ?_ o4 o5, by rw [nk]; omega⟩
    simp only [List.mem_cons, List.not_mem_nil, or_false] at hs
    have e1 : IntKind.i64.min = -9223372036854775808 := rfl
    have e2 : IntKind.i64.max = 9223372036854775807 := rfl
    unfold okI; omega
  split
  · obtain ⟨y, e4, hy⟩ := l03Any_L1 (k := k) (g := (c2, w)) l2 k 0 t (by omega) (by omega) ok (by omega)
    rw [show ((0 : Nat) : Int) = 0 from rfl] at e4
    rw [e4]
    exact ⟨_, _, rfl, h3, hy⟩
  · exact ⟨_, _, rfl, h3, ok, by omega⟩
/-- The lines that are read. -/
def LINES : List ByteArray := (pspec_l08Lines 0).getD []
theorem l08Lines (k : Nat) : pspec_l08Lines k = some LINES := rfl
theorem lines_len : LINES.length = 29 := rfl
def lineOk (k : Nat) (s : ByteArray) : Bool :=
  match pspec_ReadTerm k (s ++ bs [32, 46]) with
  | some v => tOk v.1 && decide (sumOk s (bs [32, 46]))
  | none => false
theorem lines_ok (n : Nat) : LINES.all (lineOk (n + 3000)) = true := by kernel_rfl
theorem line_read {k : Nat} (hk : 3000 ≤ k) {s : ByteArray} (hs : s ∈ LINES) : ∃ p, pspec_ReadTerm k (s ++ bs [32, 46]) = some p ∧ tOk p.1 = true ∧ sumOk s (bs [32, 46]) := by
  have h := lines_ok (k - 3000)
  rw [Nat.sub_add_cancel hk] at h
  have h := List.all_eq_true.1 h s hs
  unfold lineOk at h
  cases e : pspec_ReadTerm k (s ++ bs [32, 46]) with
  | none => rw [e] at h; cases h
  | some p =>
    rw [e] at h
    simp only [Bool.and_eq_true, decide_eq_true_eq] at h
    exact ⟨p, rfl, h.1, h.2⟩
theorem ite_ex {α : Type} {c : Prop} [Decidable c] {a b : Option α} (ha : ∃ x, a = some x) (hb : ∃ x, b = some x) : ∃ x, (if c then a else b) = some x := by
  split
  · exact ha
  · exact hb
theorem control (k : Nat) (s : ByteArray) : ∃ b, pspec_Control k s = some b := by
  have J : ∀ d, ∃ b, pspec_Control_J1 k s d = some b := by
    intro d; unfold pspec_Control_J1
    repeat' (first | apply ite_ex | exact ⟨_, rfl⟩)
  unfold pspec_Control
  repeat' (first | exact J _ | apply ite_ex | exact ⟨_, rfl⟩)
theorem decimal5 {k : Nat} {n : Nat} (h : n ≤ 5) (hk : 100 ≤ k) : ∃ s, pspec_Decimal k (n : Int) = some s ∧ s.size ≤ 1 := by
  obtain ⟨q, rfl⟩ : ∃ q, k = q + 100 := ⟨k - 100, by omega⟩
  match n, h with
  | 0, _ => exact ⟨bs [48], by kernel_rfl, by decide⟩
  | 1, _ => exact ⟨bs [49], by kernel_rfl, by decide⟩
  | 2, _ => exact ⟨bs [50], by kernel_rfl, by decide⟩
  | 3, _ => exact ⟨bs [51], by kernel_rfl, by decide⟩
  | 4, _ => exact ⟨bs [52], by kernel_rfl, by decide⟩
  | 5, _ => exact ⟨bs [53], by kernel_rfl, by decide⟩
  | n + 6, h => omega
theorem predOf {k : Nat} {x : GTerm} (h1 : x.gKids.length ≤ 5) (h2 : x.gName.size ≤ 1000) (hk : maxLen < k) : ∃ s, pspec_PredOf k x = some s := by
  have hM := maxLen_eq
  obtain ⟨s, e, hs⟩ := decimal5 (k := k) h1 (by omega)
  have J : ∃ s, pspec_PredOf_J1 k x = some s := by
    unfold pspec_PredOf_J1
    have h3 : (bs [47]).size = 1 := by decide
    rw [if_pos (by unfold sumOk; omega), e]
    simp only [Option.bind_some]
    rw [if_pos (by unfold sumOk; rw [ByteArray.size_append]; omega)]
    exact ⟨_, rfl⟩
  unfold pspec_PredOf
  split
  · split
    · exact ⟨_, rfl⟩
    · exact J
  · exact J
/-- A term of a clause that was made. -/
def SmT (x : GTerm) : Prop := x.ok ∧ nT x ≤ 400
theorem sm0 : SmT (.mk 0 (bs []) 0 []) := ⟨ok_mk (by omega) (by decide) (by omega) (by simp) (by simp), by rw [nT, nTs]; omega⟩
theorem kid_of {x : GTerm} {d : Int} (h : gT d x = true) {y : GTerm} (hy : y ∈ x.gKids) : gT (d + 1) y = true ∧ nT y + 1 ≤ nT x := by
  rw [gT_eq] at h
  simp only [Bool.and_eq_true] at h
  refine ⟨?_, by have := nsum_mem (n := nT) hy; rw [nT_kids x]; omega⟩
  have : ∀ (l : List GTerm) (d : Int), gTs d l = true → ∀ y ∈ l, gT d y = true := by
    intro l
    induction l with
    | nil => intro d _ y hy; cases hy
    | cons x l ih =>
      intro d h y hy
      rw [gTs, Bool.and_eq_true] at h
      cases hy with
      | head => exact h.1
      | tail _ hy => exact ih d h.2 y hy
  exact this _ _ h.2.2 y hy
theorem gT_shape {x : GTerm} {d : Int} (h : gT d x = true) : x.gKids.length ≤ 5 ∧ x.gName.size ≤ 20 := by
  rw [gT_eq] at h
  simp only [Bool.and_eq_true] at h
  have := one_ok h.2.1
  omega
theorem l03Is {k : Nat} {x : GTerm} {s : ByteArray} {n : Int} : pspec_l03Is k x s n = some ((x.gKind == 4) && (sEq x.gName s && ((x.gKids.length : Int) == n))) := by
  unfold pspec_l03Is
  cases x.gKind == 4 <;> cases sEq x.gName s <;> rfl

theorem clauseOf {k : Nat} {x : GTerm} {s : ByteArray} (hk : 1000000 < k - maxLen) (hx : x.ok) (hn : nT x ≤ 400) (hs : s.size ≤ 1000) : ∃ c b, pspec_ClauseOf k x s = some (c, b) ∧ SmT c.gHead ∧ SmT c.gBody ∧ c.gFile.size ≤ 1000 := by
  have hM := maxLen_eq
  unfold pspec_ClauseOf
  have fin : ∀ c : GClause, SmT c.gHead → SmT c.gBody → pspec_l34Clause k c = some c := by
    intro c h1 h2
    unfold pspec_l34Clause
    rw [l34Term (by have := h1.2; omega) (by have := h1.2; omega)]
    simp only [Option.bind_some]
    rw [l34Term (by have := h2.2; omega) (by have := h2.2; omega)]
    rfl
  have raw : ∃ c b, pspec_l08ClauseOfRaw k x s = some (c, b) ∧ SmT c.gHead ∧ SmT c.gBody ∧ c.gFile.size ≤ 1000 := by
    have hz : (bs []).size ≤ 1000 := by decide
    unfold pspec_l08ClauseOfRaw
    rw [spec_TermOk (by omega) hx]
    simp only [Option.bind_some]
    cases ht : tOk x with
    | false => simp only [Bool.not_false, if_true]; exact ⟨_, _, rfl, sm0, sm0, hz⟩
    | true =>
      simp only [Bool.not_true, Bool.false_eq_true, if_false, pspec_l03Atom, l03Is, Option.bind_some]
      have hg : gT 1 x = true := by
        unfold tOk at ht; simp only [Bool.and_eq_true] at ht; exact ht.2
      have J : ∀ c : GClause, (∃ d, gT d c.gHead = true) → SmT c.gHead → SmT c.gBody → c.gFile.size ≤ 1000 → ∃ c' b, pspec_l08ClauseOfRaw_J1 k c = some (c', b) ∧ SmT c'.gHead ∧ SmT c'.gBody ∧ c'.gFile.size ≤ 1000 := by
        intro c ⟨d, hd⟩ h1 h2 h3
        unfold pspec_l08ClauseOfRaw_J1 pspec_l08Head
        have hsh := gT_shape hd
        obtain ⟨p, e⟩ := predOf (k := k) (x := c.gHead) hsh.1 (by omega) (kz hk)
        obtain ⟨b, e2⟩ := control k p
        rw [e]
        simp only [Option.bind_some, e2]
        have tail : ∀ q : Bool, ∃ c' b, (if (!q) = true then some (GClause.mk (GTerm.mk 0 (bs []) 0 []) (GTerm.mk 0 (bs []) 0 []) (bs []), false) else (pspec_TermOk k c.gBody).bind fun d605_ => if (!d605_) = true then some (GClause.mk (GTerm.mk 0 (bs []) 0 []) (GTerm.mk 0 (bs []) 0 []) (bs []), false) else some (c, true)) = some (c', b) ∧ SmT c'.gHead ∧ SmT c'.gBody ∧ c'.gFile.size ≤ 1000 := by
          intro q
          cases q with
          | false => exact ⟨_, _, rfl, sm0, sm0, hz⟩
          | true =>
            rw [if_neg (by decide), spec_TermOk (by have := h2.2; omega) h2.1]
            simp only [Option.bind_some]
            cases tOk c.gBody with
            | false => exact ⟨_, _, rfl, sm0, sm0, hz⟩
            | true => exact ⟨_, _, rfl, h1, h2, h3⟩
        cases (!sEq p (bs [])) with
        | true => simp only [if_true, Option.bind_some]; exact tail (!b)
        | false => simp only [Bool.false_eq_true, if_false, Option.bind_some]; exact tail false
      cases hc : ((x.gKind == 4) && (sEq x.gName (bs [58, 45]) && ((x.gKids.length : Int) == 2))) with
      | false =>
        rw [if_neg (by decide)]
        exact J _ ⟨1, hg⟩ ⟨hx, hn⟩ ⟨gT_ok _ 1 ((atom_made (s := bs [116, 114, 117, 101]) (by decide +kernel) 3).1 1 (by omega)), by show nT (.mk 2 _ 0 []) ≤ 400; rw [nT, nTs]; omega⟩ hs
      | true =>
        rw [if_pos rfl]
        simp only [Bool.and_eq_true, beq_iff_eq] at hc
        have hl : x.gKids.length = 2 := by omega
        have a0 : at' x.gKids 0 = some x.gKids[0] := at_lt (n := 0) (by omega)
        have a1 : at' x.gKids 1 = some x.gKids[1] := at_lt (n := 1) (by omega)
        rw [a0, a1]
        simp only [Option.bind_some]
        have m0 := kid_of hg (List.getElem_mem (show 0 < x.gKids.length by omega))
        have m1 := kid_of hg (List.getElem_mem (show 1 < x.gKids.length by omega))
        split
        · refine J _ ⟨_, m0.1⟩ ⟨gT_ok _ _ m0.1, by simp only; omega⟩ ⟨ok_mk (by omega) (by decide) (by omega) (by simp) ?_, ?_⟩ hs
          · intro y hy; rw [List.mem_singleton.1 hy]; exact gT_ok _ _ m1.1
          · show nT (.mk 4 _ 0 [_]) ≤ 400
            rw [nT, nTs, nTs]; omega
        · exact J _ ⟨_, m0.1⟩ ⟨gT_ok _ _ m0.1, by simp only; omega⟩ ⟨gT_ok _ _ m1.1, by simp only; omega⟩ hs
  obtain ⟨c, b, e, h1, h2, h3⟩ := raw
  simp only [e, Option.bind_some, fin c h1 h2]
  exact ⟨_, _, rfl, h1, h2, h3⟩

theorem drawClauseOf {k : Nat} {a : List Int} (ha : a.length ≤ 1048576) (hk : 1000000 < k - maxLen) : ∃ t s, pspec_DrawClauseOf k a = some (t, s) ∧ t.ok ∧ nT t ≤ 400 ∧ s.size ≤ 1000 := by
  have hM := maxLen_eq
  have hone : (bs [111, 110, 101]).size ≤ 1000 := by decide
  unfold pspec_DrawClauseOf
  obtain ⟨c, e1, h1⟩ := l01New (k := k) ha (kz hk)
  obtain ⟨c1, v, e2, h2, l2, u2, _⟩ := l01Below h1 k 4
  obtain ⟨c2, s, e4, h4, hs⟩ := l01Pick h2 k (l := LINES) (by rw [lines_len]; decide)
  obtain ⟨p, e5, r1, r2⟩ := line_read (k := k) (by omega) hs
  rw [e1, obs, e2, obs, l08Lines, obs, e4, obs, if_pos r2, e5, obs]
  split
  · obtain ⟨c3, t, e5, h5, h6⟩ := l03Any h4 (k := k) hk
    simp only [e5, Option.bind_some]
    exact ⟨_, _, rfl, h6.1, by have := h6.2; omega, hone⟩
  split
  · obtain ⟨c3, t, e5, h5, h6⟩ := l03Term h4 (k := k) hk
    obtain ⟨c4, u, e7, h7, h8⟩ := l03Term h5 (k := k) hk
    simp only [e5, e7, Option.bind_some, pspec_l03Two]
    refine ⟨_, _, rfl, ok_mk (by omega) (by decide) (by omega) (by simp) ?_, ?_, hone⟩
    · intro y hy
      simp only [List.mem_cons, List.not_mem_nil, or_false] at hy
      rcases hy with rfl | rfl
      · exact h6.any.1
      · exact h8.any.1
    · have := h6.any.2; have := h8.any.2
      rw [nT, nTs, nTs, nTs]; omega
  · have := tOk_ok r1
    exact ⟨_, _, rfl, this.1, by omega, hone⟩
theorem drawClauseTerm {k : Nat} {a : List Int} (ha : a.length ≤ 1048576) (hk : 1000000 < k - maxLen) : ∃ c, pspec_DrawClauseTerm k a = some c ∧ SmT c.gHead ∧ SmT c.gBody ∧ c.gFile.size ≤ 1000 := by
  have hM := maxLen_eq
  unfold pspec_DrawClauseTerm
  obtain ⟨t, s, e1, h1, h2, h3⟩ := drawClauseOf ha hk
  obtain ⟨c, b, e2, h4, h5, h6⟩ := clauseOf (k := k) (x := t) (s := s) hk h1 h2 h3
  simp only [e1, e2, Option.bind_some]
  exact ⟨_, rfl, h4, h5, h6⟩
/-! clauses: what is told of them -/
theorem nsum_le {α : Type} {n : α → Nat} {B : Nat} : ∀ {l : List α}, (∀ x ∈ l, n x ≤ B) → nsum n l ≤ l.length * (B + 1)
  | [], _ => by simp [nsum]
  | x :: l, h => by
    have h1 := h x (List.mem_cons_self ..)
    have h2 := nsum_le (l := l) (fun y hy => h y (List.mem_cons_of_mem _ hy))
    rw [nsum, List.length_cons, Nat.add_mul]
    omega
theorem copyClauses_L1 {k : Nat} {l : List GClause} (hl : l.length ≤ 1048576) (hf : ∀ x ∈ l, pimpl_copyClause k x = some x) :
    ∀ (m j : Nat), j ≤ l.length → l.length - j < m → pimpl_copyClauses_L1 k l m (l.take j) (j : Int) = some (.done l)
  | 0, j, h1, h2 => by omega
  | m + 1, j, h1, h2 => by
    unfold pimpl_copyClauses_L1
    have hm : l.length ≤ maxLen := by rw [maxLen_eq]; omega
    by_cases hlt : j < l.length
    · rw [if_pos (by simpa using hlt), at_lt hlt]
      simp only [Option.bind_some, hf _ (List.getElem_mem hlt)]
      rw [if_pos (by simp; omega), wr_succ hlt hm, ← List.take_succ_eq_append_getElem hlt]
      exact copyClauses_L1 hl hf m (j + 1) (by omega) (by omega)
    · rw [if_neg (by simpa using hlt), List.take_of_length_le (by omega)]
theorem copyClauses {k : Nat} {l : List GClause} (hw : maxLen + 2 * nsum nClause l + 2 < k) (hx : nsum nClause l ≤ 1048576) : pimpl_copyClauses k l = some l := by
  have := nsum_len nClause l
  unfold pimpl_copyClauses
  have e := copyClauses_L1 (k := k) (l := l) (by omega) (fun x hx => by have := nsum_mem (n := nClause) hx; exact copyClause (by omega) (by omega)) k 0 (by omega) (by omega)
  rw [show ((0 : Nat) : Int) = 0 from rfl, List.take_zero] at e
  rw [e]; rfl

/-- A term whose predicate is told. -/
def KT (x : GTerm) : Prop := x.gKids.length ≤ 5 ∧ x.gName.size ≤ 1000
def dec5 (n : Nat) : ByteArray := bs [UInt8.ofNat (48 + n)]
def predS (x : GTerm) : ByteArray := if x.gKind ≠ 2 ∧ x.gKind ≠ 4 then bs [] else x.gName ++ bs [47] ++ dec5 x.gKids.length
theorem decBoth {k : Nat} {n : Nat} (h : n ≤ 5) (hk : maxLen < k) : pspec_Decimal k (n : Int) = some (dec5 n) ∧ pimpl_Decimal k (n : Int) = some (dec5 n) ∧ (dec5 n).size ≤ 1 := by
  have hM := maxLen_eq
  obtain ⟨q, rfl⟩ : ∃ q, k = q + 100 := ⟨k - 100, by omega⟩
  match n, h with
  | 0, _ => exact ⟨by kernel_rfl, by kernel_rfl, by decide⟩
  | 1, _ => exact ⟨by kernel_rfl, by kernel_rfl, by decide⟩
  | 2, _ => exact ⟨by kernel_rfl, by kernel_rfl, by decide⟩
  | 3, _ => exact ⟨by kernel_rfl, by kernel_rfl, by decide⟩
  | 4, _ => exact ⟨by kernel_rfl, by kernel_rfl, by decide⟩
  | 5, _ => exact ⟨by kernel_rfl, by kernel_rfl, by decide⟩
  | n + 6, h => omega
theorem predBoth {k : Nat} {x : GTerm} (h : KT x) (hk : maxLen < k) : pspec_PredOf k x = some (predS x) ∧ pimpl_PredOf k x = some (predS x) := by
  have hM := maxLen_eq
  obtain ⟨h1, h2⟩ := h
  obtain ⟨e1, e2, e3⟩ := decBoth (k := k) h1 hk
  have h3 : (bs [47]).size = 1 := by decide
  have s1 : sumOk x.gName (bs [47]) := by unfold sumOk; omega
  have s2 : sumOk (x.gName ++ bs [47]) (dec5 x.gKids.length) := by unfold sumOk; rw [ByteArray.size_append]; omega
  have J1 : pspec_PredOf_J1 k x = some (x.gName ++ bs [47] ++ dec5 x.gKids.length) := by
    unfold pspec_PredOf_J1
    rw [if_pos s1, e1, obs, if_pos s2]
  have J2 : pimpl_PredOf_J1 k x = some (x.gName ++ bs [47] ++ dec5 x.gKids.length) := by
    unfold pimpl_PredOf_J1
    rw [if_pos s1, e2, obs, if_pos s2]
  refine ⟨?_, ?_⟩
  · unfold pspec_PredOf predS
    rw [J1]
    by_cases a : x.gKind = 2 <;> by_cases b : x.gKind = 4 <;> simp [a, b]
  · unfold pimpl_PredOf predS
    rw [J2]
    by_cases a : x.gKind = 2 <;> by_cases b : x.gKind = 4 <;> simp [a, b]
theorem impl_Control {k : Nat} (s : ByteArray) (hk : maxLen < k) : pimpl_Control k s = some (has ctl s) := by
  unfold pimpl_Control
  have hM := maxLen_eq
  have e := scontains (k := k) (l := ctl) s (by show 26 ≤ maxLen; omega) hk
  unfold ctl at e ⊢
  rw [e]; rfl
def hd (x : GTerm) : Bool := !(sEq (predS x) (bs [])) && !(has ctl (predS x))
theorem headBoth {k : Nat} {x : GTerm} (h : KT x) (hk : maxLen < k) : pspec_l08Head k x = some (hd x) ∧ pimpl_headOk k x = some (hd x) := by
  obtain ⟨e1, e2⟩ := predBoth (k := k) h hk
  unfold pspec_l08Head pimpl_headOk hd
  simp only [e1, e2, obs, spec_Control, impl_Control _ hk]
  cases sEq (predS x) (bs []) <;> exact ⟨rfl, rfl⟩
theorem tOk_KT {x : GTerm} (h : tOk x = true) : KT x := by
  unfold tOk at h
  simp only [Bool.and_eq_true] at h
  have := gT_shape h.2
  exact ⟨this.1, by omega⟩

def cz : GClause := GClause.mk (GTerm.mk 0 (bs []) 0 []) (GTerm.mk 0 (bs []) 0 []) (bs [])
def zt : GTerm := GTerm.mk 0 (bs []) 0 []
theorem zt_not : tOk zt = false := by
  unfold tOk
  rw [gT_eq]
  have : one zt = false := by unfold zt one; rw [mk_gKind, if_neg (by decide), if_neg (by decide), if_neg (by decide), if_neg (by decide)]
  rw [this]; simp
def isR (x : GTerm) : Bool := (x.gKind == 4) && (sEq x.gName (bs [58, 45]) && ((x.gKids.length : Int) == 2))
def cB (b : GTerm) : GTerm := if b.gKind = 1 then GTerm.mk 4 (bs [99, 97, 108, 108]) 0 [b] else b
def cR (x : GTerm) (s : ByteArray) : GClause := if isR x then GClause.mk (x.gKids.getD 0 zt) (cB (x.gKids.getD 1 zt)) s else GClause.mk x (GTerm.mk 2 (bs [116, 114, 117, 101]) 0 []) s
def cO (c : GClause) : Bool := hd c.gHead && tOk c.gBody
def clOf (x : GTerm) (s : ByteArray) : GClause × Bool := if tOk x = true then (if cO (cR x s) = true then (cR x s, true) else (cz, false)) else (cz, false)
theorem l03Is' {k : Nat} {x : GTerm} : pspec_l03Is k x (bs [58, 45]) 2 = some (isR x) := l03Is
theorem isStruct' {k : Nat} {x : GTerm} : pimpl_isStruct k x (bs [58, 45]) 2 = some (isR x) := by
  unfold pimpl_isStruct isR
  cases x.gKind == 4 <;> cases sEq x.gName (bs [58, 45]) <;> rfl
/-- What the raw clause is of. -/
theorem cR_sm {x : GTerm} {s : ByteArray} (ht : tOk x = true) : (∃ d, gT d (cR x s).gHead = true ∧ 1 ≤ d) ∧ SmT (cR x s).gHead ∧ SmT (cR x s).gBody ∧ nT (cR x s).gHead ≤ 399 ∧ (cR x s).gBody.gKind ≠ 1 ∧ (cR x s).gFile = s := by
  have hM := maxLen_eq
  have h := ht
  unfold tOk at h
  simp only [Bool.and_eq_true, decide_eq_true_eq] at h
  obtain ⟨hn, hg⟩ := h
  unfold cR
  cases hc : isR x with
  | false =>
    rw [if_neg (by decide)]
    refine ⟨⟨1, hg, by decide⟩, ⟨gT_ok _ _ hg, by simp only; omega⟩, ⟨gT_ok _ 1 ((atom_made (s := bs [116, 114, 117, 101]) (by decide +kernel) 3).1 1 (by omega)), ?_⟩, by simp only; omega, by show (2 : Int) ≠ 1; decide, rfl⟩
    show nT (.mk 2 _ 0 []) ≤ 400
    rw [nT, nTs]; omega
  | true =>
    rw [if_pos rfl]
    unfold isR at hc
    simp only [Bool.and_eq_true, beq_iff_eq] at hc
    have hl : x.gKids.length = 2 := by omega
    have g0 : x.gKids.getD 0 zt = x.gKids[0] := by rw [List.getD_eq_getElem?_getD, List.getElem?_eq_getElem (by omega)]; rfl
    have g1 : x.gKids.getD 1 zt = x.gKids[1] := by rw [List.getD_eq_getElem?_getD, List.getElem?_eq_getElem (by omega)]; rfl
    have m0 := kid_of hg (List.getElem_mem (show 0 < x.gKids.length by omega))
    have m1 := kid_of hg (List.getElem_mem (show 1 < x.gKids.length by omega))
    rw [g0, g1]
    refine ⟨⟨_, m0.1, by decide⟩, ⟨gT_ok _ _ m0.1, by simp only; omega⟩, ?_, by simp only; omega, ?_, rfl⟩
    · unfold cB
      simp only
      split
      · refine ⟨ok_mk (by omega) (by decide) (by omega) (by simp) ?_, ?_⟩
        · intro y hy; rw [List.mem_singleton.1 hy]; exact gT_ok _ _ m1.1
        · rw [nT, nTs, nTs]; omega
      · exact ⟨gT_ok _ _ m1.1, by omega⟩
    · unfold cB
      simp only
      split
      · show (4 : Int) ≠ 1; decide
      · assumption
mutual
theorem gT_mono : ∀ (x : GTerm) (d e : Int), e ≤ d → gT d x = true → gT e x = true
  | .mk a b c l, d, e, h, g => by
    rw [gT_eq] at g ⊢
    simp only [Bool.and_eq_true, decide_eq_true_eq] at g ⊢
    exact ⟨by omega, g.2.1, gTs_mono l (d + 1) (e + 1) (by omega) g.2.2⟩
theorem gTs_mono : ∀ (l : List GTerm) (d e : Int), e ≤ d → gTs d l = true → gTs e l = true
  | [], d, e, h, g => by rw [gTs]
  | x :: l, d, e, h, g => by
    rw [gTs, Bool.and_eq_true] at g ⊢
    exact ⟨gT_mono x d e h g.1, gTs_mono l d e h g.2⟩
end
def clOk (c : GClause) : Bool := tOk c.gHead && (tOk c.gBody && hd c.gHead)
theorem cR_head {x : GTerm} {s : ByteArray} (ht : tOk x = true) : tOk (cR x s).gHead = true := by
  obtain ⟨⟨d, h1, h2⟩, _, _, h3, _, _⟩ := cR_sm (s := s) ht
  unfold tOk
  simp only [Bool.and_eq_true, decide_eq_true_eq]
  exact ⟨by omega, gT_mono _ _ _ h2 h1⟩
theorem clOf_ok {x : GTerm} {s : ByteArray} (h : (clOf x s).2 = true) : tOk x = true ∧ cO (cR x s) = true ∧ (clOf x s).1 = cR x s := by
  unfold clOf at h ⊢
  by_cases a : tOk x = true
  · rw [if_pos a] at h ⊢
    by_cases b : cO (cR x s) = true
    · rw [if_pos b]; exact ⟨a, b, rfl⟩
    · rw [if_neg b] at h; cases h
  · rw [if_neg a] at h; cases h
theorem clOf_no {x : GTerm} {s : ByteArray} (h : (clOf x s).2 = false) : (clOf x s).1 = cz := by
  unfold clOf at h ⊢
  by_cases a : tOk x = true
  · rw [if_pos a] at h ⊢
    by_cases b : cO (cR x s) = true
    · rw [if_pos b] at h; cases h
    · rw [if_neg b]
  · rw [if_neg a]
theorem clOf_right {x : GTerm} {s : ByteArray} (h : (clOf x s).2 = true) : clOk (clOf x s).1 = true ∧ (clOf x s).1.gBody.gKind ≠ 1 ∧ (clOf x s).1.gFile = s := by
  obtain ⟨a, b, c⟩ := clOf_ok h
  rw [c]
  obtain ⟨_, _, _, _, q, f⟩ := cR_sm (s := s) a
  refine ⟨?_, q, f⟩
  unfold cO at b
  unfold clOk
  rw [Bool.and_eq_true] at b
  rw [cR_head a, b.1, b.2]; rfl
theorem sm_cz : SmT cz.gHead ∧ SmT cz.gBody := ⟨sm0, sm0⟩
theorem clOf_sm (x : GTerm) (s : ByteArray) : SmT (clOf x s).1.gHead ∧ SmT (clOf x s).1.gBody := by
  cases h : (clOf x s).2 with
  | true =>
    obtain ⟨a, b, c⟩ := clOf_ok h
    rw [c]
    have := cR_sm (s := s) a
    exact ⟨this.2.1, this.2.2.1⟩
  | false => rw [clOf_no h]; exact sm_cz
theorem smClause {c : GClause} (h : SmT c.gHead ∧ SmT c.gBody) : nClause c ≤ 802 := by
  have := h.1.2; have := h.2.2; unfold nClause; omega
def l34ok (c : GClause) (k : Nat) : Prop := pspec_l34Clause k c = some c
theorem l34ok_of {c : GClause} (h : SmT c.gHead ∧ SmT c.gBody) {k : Nat} (hk : 1000000 < k - maxLen) : l34ok c k := by
  have := smClause h
  have := kk 2000 hk
  exact l34Clause (by omega) (by omega)
theorem clauseBoth {k : Nat} {x : GTerm} {s : ByteArray} (hk : 1000000 < k - maxLen) (hx : x.ok) (hn : nT x ≤ 1000) : pspec_ClauseOf k x s = some (clOf x s) ∧ pimpl_ClauseOf k x s = some (clOf x s) := by
  have hM := maxLen_eq
  have hk0 := kz hk
  have hkc := kk 2000 hk
  have hkd := kk 3000 hk
  have cc : l34ok (clOf x s).1 k := l34ok_of (clOf_sm x s) hk
  have raw : pspec_l08ClauseOfRaw k x s = some (clOf x s) ∧ pimpl_ClauseOf k x s = some (clOf x s) := by
    unfold pspec_l08ClauseOfRaw pimpl_ClauseOf
    rw [spec_TermOk (by omega) hx, impl_TermOk (by omega) hx, obs, obs]
    cases ht : tOk x with
    | false =>
      rw [if_pos (by decide), if_pos (by decide)]
      have : clOf x s = (cz, false) := by unfold clOf; rw [ht, if_neg (by decide)]
      rw [this]; exact ⟨rfl, rfl⟩
    | true =>
      rw [if_neg (by decide), if_neg (by decide)]
      unfold pspec_l03Atom pimpl_atom
      rw [l03Is', isStruct', obs, obs, obs, obs]
      obtain ⟨⟨d, d1, d2⟩, s1, s2, s3, s4, s5⟩ := cR_sm (s := s) ht
      have hK := tOk_KT (cR_head (s := s) ht)
      obtain ⟨e1, e2⟩ := headBoth (k := k) hK hk0
      have J : pspec_l08ClauseOfRaw_J1 k (cR x s) = some (clOf x s) ∧ pimpl_ClauseOf_J1 k (cR x s) = some (clOf x s) := by
        have h1 := s1.2; have h2 := s2.2
        have cl : ∀ b : Bool, cO (cR x s) = b → clOf x s = if b = true then (cR x s, true) else (cz, false) := fun b hb => by unfold clOf; rw [if_pos ht, hb]
        unfold pspec_l08ClauseOfRaw_J1 pimpl_ClauseOf_J1
        rw [e1, e2, obs, obs]
        cases hh : hd (cR x s).gHead with
        | false =>
          rw [cl false (by unfold cO; rw [hh]; rfl)]
          exact ⟨rfl, rfl⟩
        | true =>
          simp only [Bool.not_true, Bool.false_eq_true, if_false]
          rw [spec_TermOk (by omega) s2.1, impl_TermOk (by omega) s2.1, obs, obs]
          cases hb : tOk (cR x s).gBody with
          | false =>
            rw [cl false (by unfold cO; rw [hh, hb]; rfl)]
            exact ⟨rfl, rfl⟩
          | true =>
            rw [cl true (by unfold cO; rw [hh, hb]; rfl), copyClause (by unfold nClause; omega) (by unfold nClause; omega)]
            exact ⟨rfl, rfl⟩
      cases hc : isR x with
      | false =>
        rw [if_neg (by decide), if_neg (by decide)]
        have : cR x s = GClause.mk x (GTerm.mk 2 (bs [116, 114, 117, 101]) 0 []) s := by unfold cR; rw [hc, if_neg (by decide)]
        rw [← this]; exact J
      | true =>
        rw [if_pos rfl, if_pos rfl]
        have hl : x.gKids.length = 2 := by
          unfold isR at hc
          simp only [Bool.and_eq_true, beq_iff_eq] at hc
          omega
        have g0 : x.gKids.getD 0 zt = x.gKids[0] := by rw [List.getD_eq_getElem?_getD, List.getElem?_eq_getElem (by omega)]; rfl
        have g1 : x.gKids.getD 1 zt = x.gKids[1] := by rw [List.getD_eq_getElem?_getD, List.getElem?_eq_getElem (by omega)]; rfl
        have a0 : at' x.gKids 0 = some x.gKids[0] := at_lt (n := 0) (by omega)
        have a1 : at' x.gKids 1 = some x.gKids[1] := at_lt (n := 1) (by omega)
        have hR : cR x s = GClause.mk x.gKids[0] (cB x.gKids[1]) s := by unfold cR; rw [hc, if_pos rfl, g0, g1]
        rw [a0, a1, obs, obs, obs, obs]
        unfold cB at hR
        by_cases k1 : x.gKids[1].gKind = 1
        · rw [if_pos (by simpa using k1), if_pos (by simpa using k1)]
          rw [if_pos k1] at hR
          unfold pimpl_structure
          rw [obs, ← hR]; exact J
        · rw [if_neg (by simpa using k1), if_neg (by simpa using k1)]
          rw [if_neg k1] at hR
          rw [← hR]; exact J
  refine ⟨?_, raw.2⟩
  unfold pspec_ClauseOf
  rw [raw.1, obs, cc, obs]
/-! databases -/
def ClP (c : GClause) : Prop := SmT c.gHead ∧ SmT c.gBody
def DbP (d : GDb) : Prop := d.gClauses.length ≤ 300 ∧ d.gOpen.length ≤ 300 ∧ ∀ c ∈ d.gClauses, ClP c
def DbK (d : GDb) : Prop := ∀ c ∈ d.gClauses, KT c.gHead
theorem ClP.sum {l : List GClause} (h : ∀ c ∈ l, ClP c) (hl : l.length ≤ 300) : nsum nClause l ≤ 240900 := by
  have := nsum_le (n := nClause) (B := 802) (l := l) (fun c hc => smClause (h c hc))
  have : l.length * (802 + 1) ≤ 300 * 803 := Nat.mul_le_mul_right _ hl
  omega
theorem DbP.copy {d : GDb} {k : Nat} (h : DbP d) (hk : 1000000 < k - maxLen) : pimpl_copyDb k d = some d := by
  have := ClP.sum h.2.2 h.1
  have := kk 500000 hk
  have := h.2.1
  unfold pimpl_copyDb
  rw [copyClauses (by omega) (by omega), obs, if_pos (by simp; omega)]
theorem DbP.l34 {d : GDb} {k : Nat} (h : DbP d) (hk : 1000000 < k - maxLen) : pspec_l34Db k d = some d := by
  have := ClP.sum h.2.2 h.1
  have := kk 500000 hk
  have := h.2.1
  unfold pspec_l34Db
  rw [l34Clauses (by omega) (by omega), obs, l34Strings (by omega), obs]
theorem DbP.l08 {d : GDb} (k : Nat) (h : DbP d) : pspec_l08Copy k d = some d := by
  have := h.1; have := h.2.1
  unfold pspec_l08Copy
  rw [if_pos (by simp; omega), if_pos (by simp; omega)]
def dOk (d : GDb) : Bool := d.gClauses.all clOk && (decide ((d.gClauses.length : Int) ≤ 120) && decide ((d.gOpen.length : Int) ≤ 40))
theorem clauseOk {c : GClause} {k : Nat} (h : ClP c) (hk : 1000000 < k - maxLen) : pspec_l08Clause k c = some (clOk c) := by
  have h1 := h.1.2; have h2 := h.2.2
  have := kk 2000 hk
  unfold pspec_l08Clause clOk
  rw [spec_TermOk (by omega) h.1.1, obs]
  cases a : tOk c.gHead with
  | false => rfl
  | true =>
    rw [if_pos rfl, spec_TermOk (by omega) h.2.1, obs]
    cases b : tOk c.gBody with
    | false => rfl
    | true =>
      rw [if_pos rfl, (headBoth (tOk_KT a) (kz hk)).1, obs]
      rfl
theorem spec_DbOk_L1 {d : GDb} {k : Nat} (h : DbP d) (hk : 1000000 < k - maxLen) : ∀ (m j : Nat), j ≤ d.gClauses.length → d.gClauses.length - j < m → pspec_DbOk_L1 k d m (j : Int) = some (if (d.gClauses.drop j).all clOk = true then .done () else .ret false)
  | 0, j, h1, h2 => by omega
  | m + 1, j, h1, h2 => by
    have hM := maxLen_eq
    have := h.1
    rw [pspec_DbOk_L1]
    by_cases hlt : j < d.gClauses.length
    · rw [if_pos (by simpa using hlt), at_lt hlt, obs, clauseOk (h.2.2 _ (List.getElem_mem hlt)) hk, obs, List.drop_eq_getElem_cons hlt, List.all_cons]
      cases clOk d.gClauses[j] with
      | false => rfl
      | true =>
        rw [if_neg (by decide), wr_succ hlt (by omega), spec_DbOk_L1 h hk m (j + 1) (by omega) (by omega), Bool.true_and]
    · rw [if_neg (by simpa using hlt), List.drop_of_length_le (by omega)]; rfl
theorem impl_DbOk_L1 {d : GDb} {k : Nat} (h : DbP d) (hk : 1000000 < k - maxLen) : ∀ (m j : Nat), j ≤ d.gClauses.length → d.gClauses.length - j < m → pimpl_DbOk_L1 k d m (j : Int) = some (if (d.gClauses.drop j).all clOk = true then .done () else .ret false)
  | 0, j, h1, h2 => by omega
  | m + 1, j, h1, h2 => by
    have hM := maxLen_eq
    have := h.1
    have := kk 2000 hk
    rw [pimpl_DbOk_L1]
    by_cases hlt : j < d.gClauses.length
    · have hc := h.2.2 _ (List.getElem_mem hlt)
      have a1 := hc.1.2; have a2 := hc.2.2
      rw [if_pos (by simpa using hlt), at_lt hlt, obs, impl_TermOk (by omega) hc.1.1, obs, List.drop_eq_getElem_cons hlt, List.all_cons]
      unfold clOk
      cases a : tOk d.gClauses[j].gHead with
      | false => rfl
      | true =>
        rw [if_neg (by decide), impl_TermOk (by omega) hc.2.1, obs]
        cases b : tOk d.gClauses[j].gBody with
        | false => rfl
        | true =>
          rw [if_neg (by decide), (headBoth (tOk_KT a) (kz hk)).2, obs]
          cases hd d.gClauses[j].gHead with
          | false => rfl
          | true =>
            have ih := impl_DbOk_L1 h hk m (j + 1) (by omega) (by omega)
            unfold clOk at ih
            rw [if_neg (by decide), wr_succ hlt (by omega), ih]; rfl
    · rw [if_neg (by simpa using hlt), List.drop_of_length_le (by omega)]; rfl
theorem dbBoth {d : GDb} {k : Nat} (h : DbP d) (hk : 1000000 < k - maxLen) : pspec_DbOk k d = some (dOk d) ∧ pimpl_DbOk k d = some (dOk d) := by
  have := h.1
  have := kk 2000 hk
  have e1 := spec_DbOk_L1 h hk k 0 (by omega) (by omega)
  have e2 := impl_DbOk_L1 h hk k 0 (by omega) (by omega)
  rw [show ((0 : Nat) : Int) = 0 from rfl, List.drop_zero] at e1 e2
  unfold pspec_DbOk pimpl_DbOk dOk
  rw [e1, e2, obs, obs]
  cases d.gClauses.all clOk with
  | false => exact ⟨rfl, rfl⟩
  | true =>
    simp only [if_true]
    cases decide ((d.gClauses.length : Int) ≤ 120) <;> exact ⟨rfl, rfl⟩
def addR (d : GDb) (c : GClause) : GDb × Bool := if dOk (GDb.mk (d.gClauses ++ [c]) d.gOpen) = true then (GDb.mk (d.gClauses ++ [c]) d.gOpen, true) else (d, false)
theorem DbP.add {d : GDb} {c : GClause} (h : DbP d) (hl : d.gClauses.length ≤ 200) (hc : ClP c) : DbP (GDb.mk (d.gClauses ++ [c]) d.gOpen) :=
  ⟨by simp only [List.length_append, List.length_cons, List.length_nil]; omega, h.2.1, fun x hx => by
    rcases List.mem_append.1 hx with hx | hx
    · exact h.2.2 x hx
    · rw [List.mem_singleton.1 hx]; exact hc⟩
theorem addR_P {d : GDb} {c : GClause} (h : DbP d) (hl : d.gClauses.length ≤ 200) (hc : ClP c) : DbP (addR d c).1 := by
  unfold addR; split
  · exact h.add hl hc
  · exact h
theorem addBoth {d : GDb} {c : GClause} {k : Nat} (h : DbP d) (hl : d.gClauses.length ≤ 200) (hc : ClP c) (hk : 1000000 < k - maxLen) : pspec_Added k d c = some (addR d c) ∧ pimpl_Added k d c = some (addR d c) := by
  have := kk 500000 hk
  have h' := h.add hl hc
  have e := dbBoth h' hk
  have hs := smClause hc
  refine ⟨?_, ?_⟩
  · have r : pspec_l08AddedRaw k d c = some (addR d c) := by
      unfold pspec_l08AddedRaw addR
      rw [h.l08 k, obs, if_pos (by simp; omega), e.1, obs, obs]
      cases dOk (GDb.mk (d.gClauses ++ [c]) d.gOpen) <;> rfl
    unfold pspec_Added
    rw [r, obs, (addR_P h hl hc).l34 hk, obs]
  · unfold pimpl_Added addR
    rw [h.copy hk, obs, copyClause (by omega) (by omega), obs, if_pos (by simp; omega), e.2, obs, obs]
    cases dOk (GDb.mk (d.gClauses ++ [c]) d.gOpen) <;> rfl
/-! the same -/
theorem sameTexts_L1 {k : Nat} {l : List ByteArray} (hl : l.length ≤ 300) : ∀ (m j : Nat), j ≤ l.length → l.length - j < m → plaws_sameTexts_L1 k l l m (j : Int) = some (.done ())
  | 0, j, h1, h2 => by omega
  | m + 1, j, h1, h2 => by
    have hM := maxLen_eq
    rw [plaws_sameTexts_L1]
    by_cases hlt : j < l.length
    · rw [if_pos (by simpa using hlt), at_lt hlt, obs, obs, sEq_refl, if_neg (by decide), wr_succ hlt (by omega)]
      exact sameTexts_L1 hl m (j + 1) (by omega) (by omega)
    · rw [if_neg (by simpa using hlt)]
theorem sameTexts {k : Nat} {l : List ByteArray} (hl : l.length ≤ 300) (hk : maxLen < k) : plaws_sameTexts k l l = some true := by
  have hM := maxLen_eq
  unfold plaws_sameTexts
  have e := sameTexts_L1 (k := k) hl k 0 (by omega) (by omega)
  rw [show ((0 : Nat) : Int) = 0 from rfl] at e
  rw [if_neg (by simp), e]; rfl
def TC (c : GClause) : GTerm := GTerm.mk 4 (bs [58, 45]) 0 [c.gHead, c.gBody]
theorem TC_n {c : GClause} (h : ClP c) : nT (TC c) ≤ 802 := by
  have h1 := h.1.2; have h2 := h.2.2
  unfold TC
  rw [nT, nTs, nTs, nTs]; omega
theorem TC_ok {c : GClause} (h : ClP c) : (TC c).ok := ok_mk (by omega) (by decide) (by omega) (by simp) (fun y hy => by
  simp only [List.mem_cons, List.not_mem_nil, or_false] at hy
  rcases hy with rfl | rfl
  · exact h.1.1
  · exact h.2.1)
theorem termBoth {c : GClause} {k : Nat} (h : ClP c) (hk : 1000000 < k - maxLen) : pspec_ClauseTerm k c = some (TC c) ∧ pimpl_ClauseTerm k c = some (TC c) := by
  have h1 := h.1.2; have h2 := h.2.2
  have := TC_n h
  have := kk 2000 hk
  refine ⟨?_, ?_⟩
  · unfold pspec_ClauseTerm pspec_l08ClauseTermRaw pspec_l03Two
    rw [obs, obs, show GTerm.mk 4 (bs [58, 45]) 0 [c.gHead, c.gBody] = TC c from rfl, l34Term (by omega) (by omega), obs]
  · unfold pimpl_ClauseTerm pimpl_structure
    rw [copyTerm (by omega) (by omega), obs, copyTerm (by omega) (by omega), obs, obs]
    rfl
theorem same_t {x : GTerm} {k : Nat} (h : nT x ≤ 1000) (hk : 1000000 < k - maxLen) : pspec_SameTerm k x x = some true := by
  have := kk 3000 hk
  exact sameTerm k x (by omega) (by have hH : Huge = 1152921504606846976 := rfl; omega)
theorem sameDb_L1 {d : GDb} {k : Nat} (h : DbP d) (hk : 1000000 < k - maxLen) : ∀ (m j : Nat), j ≤ d.gClauses.length → d.gClauses.length - j < m → plaws_sameDb_L1 k d d m (j : Int) = some (.done ())
  | 0, j, h1, h2 => by omega
  | m + 1, j, h1, h2 => by
    have hM := maxLen_eq
    have := h.1
    rw [plaws_sameDb_L1]
    by_cases hlt : j < d.gClauses.length
    · have hc := h.2.2 _ (List.getElem_mem hlt)
      have := TC_n hc
      simp only [at_lt hlt, obs, (termBoth hc hk).1, same_t (show nT (TC d.gClauses[j]) ≤ 1000 by omega) hk, sEq_refl, Bool.not_true, Bool.false_eq_true, if_false]
      rw [if_pos (by simpa using hlt), wr_succ hlt (by omega)]
      exact sameDb_L1 h hk m (j + 1) (by omega) (by omega)
    · rw [if_neg (by simpa using hlt)]
theorem sameDb {d : GDb} {k : Nat} (h : DbP d) (hk : 1000000 < k - maxLen) : plaws_sameDb k d d = some true := by
  have hM := maxLen_eq
  have := h.1; have := kk 2000 hk
  unfold plaws_sameDb
  have e := sameDb_L1 h hk k 0 (by omega) (by omega)
  rw [show ((0 : Nat) : Int) = 0 from rfl] at e
  rw [if_neg (by simp), sameTexts h.2.1 (kz hk), obs, if_neg (by decide), e]; rfl
/-! known -/
def mt (s : ByteArray) (c : GClause) : Bool := sEq (predS c.gHead) s
def cls (d : GDb) (s : ByteArray) : List GClause := d.gClauses.filter (mt s)
def kn (d : GDb) (s : ByteArray) : Bool := has d.gOpen s || d.gClauses.any (mt s)
theorem spec_cls_L1 {d : GDb} {s : ByteArray} {k : Nat} (h : DbP d) (hK : DbK d) (hk : 1000000 < k - maxLen) : ∀ (m j : Nat) (o : List GClause), j ≤ d.gClauses.length → d.gClauses.length - j < m → o.length ≤ j → pspec_l08ClausesOfRaw_L1 k d s m o (j : Int) = some (.done (o ++ (d.gClauses.drop j).filter (mt s)))
  | 0, j, o, h1, h2, h3 => by omega
  | m + 1, j, o, h1, h2, h3 => by
    have hM := maxLen_eq
    have := h.1
    rw [pspec_l08ClausesOfRaw_L1]
    by_cases hlt : j < d.gClauses.length
    · rw [if_pos (by simpa using hlt), at_lt hlt, obs, (predBoth (hK _ (List.getElem_mem hlt)) (kz hk)).1, obs, obs, List.drop_eq_getElem_cons hlt, List.filter_cons, wr_succ hlt (by omega)]
      rw [show mt s d.gClauses[j] = sEq (predS d.gClauses[j].gHead) s from rfl]
      cases sEq (predS d.gClauses[j].gHead) s with
      | false =>
        rw [if_neg (by decide), if_neg (by decide)]
        exact spec_cls_L1 h hK hk m (j + 1) o (by omega) (by omega) (by omega)
      | true =>
        rw [if_pos rfl, if_pos rfl, if_pos (by simp only [List.length_cons, List.length_nil]; omega), spec_cls_L1 h hK hk m (j + 1) _ (by omega) (by omega) (by simp only [List.length_append, List.length_cons, List.length_nil]; omega)]
        simp
    · rw [if_neg (by simpa using hlt), List.drop_of_length_le (by omega)]; simp
theorem impl_cls_L1 {d : GDb} {s : ByteArray} {k : Nat} (h : DbP d) (hK : DbK d) (hk : 1000000 < k - maxLen) : ∀ (m j : Nat) (o : List GClause), j ≤ d.gClauses.length → d.gClauses.length - j < m → o.length ≤ j → pimpl_ClausesOf_L1 k d s m o (j : Int) = some (.done (o ++ (d.gClauses.drop j).filter (mt s)))
  | 0, j, o, h1, h2, h3 => by omega
  | m + 1, j, o, h1, h2, h3 => by
    have hM := maxLen_eq
    have := h.1
    have := kk 2000 hk
    rw [pimpl_ClausesOf_L1]
    by_cases hlt : j < d.gClauses.length
    · have hs := smClause (h.2.2 _ (List.getElem_mem hlt))
      rw [if_pos (by simpa using hlt), at_lt hlt, obs, (predBoth (hK _ (List.getElem_mem hlt)) (kz hk)).2, obs, copyClause (by omega) (by omega), obs, List.drop_eq_getElem_cons hlt, List.filter_cons, wr_succ hlt (by omega)]
      rw [show mt s d.gClauses[j] = sEq (predS d.gClauses[j].gHead) s from rfl]
      cases sEq (predS d.gClauses[j].gHead) s with
      | false =>
        rw [if_neg (by decide), if_neg (by decide)]
        exact impl_cls_L1 h hK hk m (j + 1) o (by omega) (by omega) (by omega)
      | true =>
        rw [if_pos rfl, if_pos rfl, if_pos (by simp only [List.length_cons, List.length_nil]; omega), impl_cls_L1 h hK hk m (j + 1) _ (by omega) (by omega) (by simp only [List.length_append, List.length_cons, List.length_nil]; omega)]
        simp
    · rw [if_neg (by simpa using hlt), List.drop_of_length_le (by omega)]; simp
theorem clsBoth {d : GDb} {s : ByteArray} {k : Nat} (h : DbP d) (hK : DbK d) (hk : 1000000 < k - maxLen) : pspec_ClausesOf k d s = some (cls d s) ∧ pimpl_ClausesOf k d s = some (cls d s) := by
  have hM := maxLen_eq
  have := h.1; have := kk 500000 hk
  have e1 := spec_cls_L1 (s := s) h hK hk k 0 [] (by omega) (by omega) (by simp)
  have e2 := impl_cls_L1 (s := s) h hK hk k 0 [] (by omega) (by omega) (by simp)
  rw [show ((0 : Nat) : Int) = 0 from rfl, List.drop_zero, List.nil_append] at e1 e2
  have hl : (cls d s).length ≤ d.gClauses.length := List.length_filter_le _ _
  have hs := ClP.sum (l := cls d s) (fun c hc => h.2.2 c (List.mem_filter.1 hc).1) (by omega)
  refine ⟨?_, ?_⟩
  · unfold pspec_ClausesOf pspec_l08ClausesOfRaw
    rw [e1, obs]
    simp only
    rw [obs, show d.gClauses.filter (mt s) = cls d s from rfl, l34Clauses (by omega) (by omega), obs]
  · unfold pimpl_ClausesOf
    rw [e2, obs]; rfl
theorem cls_any (d : GDb) (s : ByteArray) : decide (((cls d s).length : Int) > 0) = d.gClauses.any (mt s) := by
  unfold cls
  cases h : d.gClauses.any (mt s) with
  | true =>
    obtain ⟨c, hc, e⟩ := List.any_eq_true.1 h
    have := List.length_pos_of_mem (List.mem_filter.2 ⟨hc, e⟩)
    exact decide_eq_true (by omega)
  | false =>
    have : d.gClauses.filter (mt s) = [] := List.filter_eq_nil_iff.2 (fun c hc e => by
      rw [List.any_eq_true.2 ⟨c, hc, e⟩] at h; cases h)
    rw [this]; rfl
theorem spec_Known_L1 {d : GDb} {s : ByteArray} {k : Nat} (h : DbP d) : ∀ (m j : Nat), j ≤ d.gOpen.length → d.gOpen.length - j < m → pspec_Known_L1 k d s m (j : Int) = some (if has (d.gOpen.drop j) s = true then .ret true else .done ())
  | 0, j, h1, h2 => by omega
  | m + 1, j, h1, h2 => by
    have hM := maxLen_eq
    have := h.2.1
    rw [pspec_Known_L1]
    by_cases hlt : j < d.gOpen.length
    · rw [if_pos (by simpa using hlt), at_lt hlt, obs, List.drop_eq_getElem_cons hlt, wr_succ hlt (by omega)]
      unfold has
      rw [List.any_cons, sEq_comm s]
      cases sEq d.gOpen[j] s with
      | true => rfl
      | false =>
        have ih := spec_Known_L1 (s := s) (k := k) h m (j + 1) (by omega) (by omega)
        unfold has at ih
        rw [if_neg (by decide), ih, Bool.false_or]
    · rw [if_neg (by simpa using hlt), List.drop_of_length_le (by omega)]; rfl
theorem indexF_L1 {l : List GClause} {s : ByteArray} {k : Nat} (hl : l.length ≤ 300) (hK : ∀ c ∈ l, KT c.gHead) (hk : maxLen < k) : ∀ (m j : Nat), j ≤ l.length → l.length - j < m →
    ∃ o, pslices_IndexFunc___impl_Clause_impl_Clause__on1_pimpl_Known_1_L1 k l s m (j : Int) = some o ∧ (match o with | .ret i => 0 ≤ i ∧ (l.drop j).any (mt s) = true | .done _ => (l.drop j).any (mt s) = false)
  | 0, j, h1, h2 => by omega
  | m + 1, j, h1, h2 => by
    have hM := maxLen_eq
    unfold pslices_IndexFunc___impl_Clause_impl_Clause__on1_pimpl_Known_1_L1
    by_cases hlt : j < l.length
    · rw [if_pos (by simpa using hlt), at_lt hlt, List.drop_eq_getElem_cons hlt, List.any_cons, obs]
      unfold pimpl_Known_1
      rw [(predBoth (hK _ (List.getElem_mem hlt)) hk).2, obs, obs, show mt s l[j] = sEq (predS l[j].gHead) s from rfl]
      cases sEq (predS l[j].gHead) s with
      | true =>
        rw [if_pos rfl]
        exact ⟨_, rfl, by omega, by rfl⟩
      | false =>
        rw [if_neg (by decide), wr_succ hlt (by omega)]
        obtain ⟨o, h3, h4⟩ := indexF_L1 (s := s) hl hK hk m (j + 1) (by omega) (by omega)
        refine ⟨o, h3, ?_⟩
        cases o with
        | ret i => exact ⟨h4.1, by rw [h4.2]; rfl⟩
        | done u => rw [Bool.false_or]; exact h4
    · rw [if_neg (by simpa using hlt), List.drop_of_length_le (by omega)]
      exact ⟨_, rfl, by simp⟩
theorem containsF {l : List GClause} {s : ByteArray} {k : Nat} (hl : l.length ≤ 300) (hK : ∀ c ∈ l, KT c.gHead) (hk : maxLen < k) : pslices_ContainsFunc___impl_Clause_impl_Clause__on1_pimpl_Known_1 k l s = some (l.any (mt s)) := by
  have hM := maxLen_eq
  unfold pslices_ContainsFunc___impl_Clause_impl_Clause__on1_pimpl_Known_1 pslices_IndexFunc___impl_Clause_impl_Clause__on1_pimpl_Known_1
  obtain ⟨o, h1, h2⟩ := indexF_L1 (s := s) hl hK hk k 0 (by omega) (by omega)
  rw [show ((0 : Nat) : Int) = 0 from rfl] at h1
  rw [h1, obs]
  rw [List.drop_zero] at h2
  cases o with
  | ret i =>
    simp only
    rw [obs, h2.2, decide_eq_true (by omega)]
  | done u =>
    simp only at h2 ⊢
    rw [obs, h2]; rfl
theorem knownBoth {d : GDb} {s : ByteArray} {k : Nat} (h : DbP d) (hK : DbK d) (hk : 1000000 < k - maxLen) : pspec_Known k d s = some (kn d s) ∧ pimpl_Known k d s = some (kn d s) := by
  have hM := maxLen_eq
  have := h.1; have := h.2.1; have := kk 500000 hk
  have e1 := spec_Known_L1 (s := s) (k := k) h k 0 (by omega) (by omega)
  rw [show ((0 : Nat) : Int) = 0 from rfl, List.drop_zero] at e1
  refine ⟨?_, ?_⟩
  · unfold pspec_Known kn
    rw [e1, obs]
    cases has d.gOpen s with
    | true => rfl
    | false =>
      simp only [Bool.false_eq_true, if_false]
      rw [(clsBoth h hK hk).1, obs, cls_any]; rfl
  · unfold pimpl_Known kn
    rw [scontains s (by omega) (kz hk), obs]
    cases has d.gOpen s with
    | true => rfl
    | false => rw [if_neg (by decide), containsF h.1 hK (kz hk), obs]; rfl
/-! opened -/
def opR (d : GDb) (s : ByteArray) : GDb := if has d.gOpen s = true then d else if (d.gOpen.length : Int) < 40 then GDb.mk d.gClauses (d.gOpen ++ [s]) else d
theorem spec_Opened_L1 {d e : GDb} {s : ByteArray} {k : Nat} (h : DbP d) : ∀ (m j : Nat), j ≤ d.gOpen.length → d.gOpen.length - j < m → pspec_l08OpenedRaw_L1 k d s e m (j : Int) = some (if has (d.gOpen.drop j) s = true then .ret e else .done ())
  | 0, j, h1, h2 => by omega
  | m + 1, j, h1, h2 => by
    have hM := maxLen_eq
    have := h.2.1
    rw [pspec_l08OpenedRaw_L1]
    by_cases hlt : j < d.gOpen.length
    · rw [if_pos (by simpa using hlt), at_lt hlt, obs, List.drop_eq_getElem_cons hlt, wr_succ hlt (by omega)]
      unfold has
      rw [List.any_cons, sEq_comm s]
      cases sEq d.gOpen[j] s with
      | true => rfl
      | false =>
        have ih := spec_Opened_L1 (s := s) (k := k) (e := e) h m (j + 1) (by omega) (by omega)
        unfold has at ih
        rw [if_neg (by decide), ih, Bool.false_or]
    · rw [if_neg (by simpa using hlt), List.drop_of_length_le (by omega)]; rfl
theorem opR_P {d : GDb} {s : ByteArray} (h : DbP d) : DbP (opR d s) := by
  unfold opR
  split
  · exact h
  · split
    · exact ⟨h.1, by simp only [List.length_append, List.length_cons, List.length_nil]; omega, h.2.2⟩
    · exact h
theorem openBoth {d : GDb} {s : ByteArray} {k : Nat} (h : DbP d) (hk : 1000000 < k - maxLen) : pspec_Opened k d s = some (opR d s) ∧ pimpl_Opened k d s = some (opR d s) := by
  have hM := maxLen_eq
  have := h.1; have := h.2.1; have := kk 500000 hk
  have e1 := spec_Opened_L1 (s := s) (k := k) (e := d) h k 0 (by omega) (by omega)
  rw [show ((0 : Nat) : Int) = 0 from rfl, List.drop_zero] at e1
  refine ⟨?_, ?_⟩
  · have r : pspec_l08OpenedRaw k d s = some (opR d s) := by
      unfold pspec_l08OpenedRaw opR
      rw [h.l08 k, obs, e1, obs]
      cases has d.gOpen s with
      | true => rfl
      | false =>
        simp only [Bool.false_eq_true, if_false]
        by_cases q : (d.gOpen.length : Int) < 40
        · rw [if_pos (by simpa using q), if_pos q, if_pos (by simp only [List.length_cons, List.length_nil]; omega)]
        · rw [if_neg (by simpa using q), if_neg q]
    unfold pspec_Opened
    rw [r, obs, (opR_P h).l34 hk, obs]
  · unfold pimpl_Opened opR
    rw [h.copy hk, obs]
    by_cases q : (d.gOpen.length : Int) < 40
    · rw [if_pos (by simpa using q), scontains s (by omega) (kz hk), obs]
      unfold pimpl_Opened_J1
      cases has d.gOpen s with
      | true => rfl
      | false => rw [if_pos (by decide), if_pos (by simp only [List.length_cons, List.length_nil]; omega), if_neg (by decide), if_pos q]
    · rw [if_neg (by simpa using q)]
      unfold pimpl_Opened_J1
      rw [if_neg (by decide), if_neg q]
      split <;> rfl
/-! what is drawn: databases -/
theorem l03AnyK_L1 {k : Nat} {g : GL01Cur × Int} (h1 : 0 ≤ g.2) : ∀ (m j : Nat) (x : GTerm), 42 - j < m → j ≤ 41 → x.ok → nT x ≤ 63 + j → KT x → ∃ y, pspec_l03Any_L1 k g m (j : Int) x = some (.done y) ∧ AnyT y ∧ KT y
  | 0, j, x, a1, a2, a3, a4, a5 => by omega
  | m + 1, j, x, a1, a2, a3, a4, a5 => by
    rw [pspec_l03Any_L1, if_pos (by decide)]
    have g1 := Int.tmod_nonneg 4 h1
    have g2 := Int.tmod_lt_of_pos g.2 (b := 4) (by decide)
    rw [wr_i64 (x := 38 + Int.tmod g.2 4) (by omega) (by omega)]
    by_cases q : (j : Int) < 38 + Int.tmod g.2 4
    · rw [if_pos (by simpa using q), wr_i64 (by omega) (by omega), show ((j : Int) + 1) = ((j + 1 : Nat) : Int) by omega]
      refine l03AnyK_L1 h1 m (j + 1) _ (by omega) (by omega) (ok_mk (by omega) (by decide) (by omega) (by simp) ?_) ?_ ⟨by rw [mk_gKids]; simp, by rw [mk_gName]; decide⟩
      · intro y hy; rw [List.mem_singleton.1 hy]; exact a3
      · rw [nT, nTs, nTs]; omega
    · rw [if_neg (by simpa using q)]
      exact ⟨_, rfl, ⟨a3, by omega⟩, a5⟩
theorem l03AnyK {c : GL01Cur} (h : CurOk c) {k : Nat} (hk : 1000000 < k - maxLen) : ∃ c' t, pspec_l03Any k c = some (c', t) ∧ CurOk c' ∧ AnyT t ∧ KT t := by
  unfold pspec_l03Any
  obtain ⟨c1, v, e1, h1, l1, u1, _⟩ := l01Below h k 12
  obtain ⟨c2, w, e2, h2, l2, u2, _⟩ := l01Below h1 k 60
  obtain ⟨c3, t, e3, h3, h4⟩ := l03Made 3 k (by omega) (by omega) c2 h2
  rw [show ((3 : Nat) : Int) = 3 from rfl] at e3
  simp only [e1, e2, e3, Option.bind_some]
  have ok := gT_ok t 1 (h4.1 1 (by omega))
  have hs := gT_shape (h4.1 1 (by omega))
  have hn := h4.2
  obtain ⟨o1, o2, o3, o4, o5⟩ : okI .i64 t.gKind ∧ okFs t.gName ∧ okI .i64 t.gNum ∧ t.gKids.length ≤ maxLen ∧ ∀ y ∈ t.gKids, y.ok := by
    clear hn h4 hs
    cases ok with | mk a b c l h1 h2 h3 h4 h5 => exact ⟨h1, h2, h3, h4, h5⟩
  have kk : ∀ q : Int, 0 ≤ q → q ≤ 1000000000 → okI .i64 q := fun q a b => by
    have e1 : IntKind.i64.min = -9223372036854775808 := rfl
    have e2 : IntKind.i64.max = 9223372036854775807 := rfl
    unfold okI; omega
  have nk : ∀ a b c, nT (.mk a b c t.gKids) = nT t := fun a b c => by rw [nT_kids, mk_gKids, ← nT_kids]
  have kt : KT t := ⟨hs.1, by omega⟩
  split
  · rw [if_pos (by decide)]
    have := Int.tmod_nonneg 6 l2
    have := Int.tmod_lt_of_pos w (b := 6) (by decide)
    exact ⟨_, _, rfl, h3, ⟨.mk _ _ _ _ (kk _ (by omega) (by omega)) o2 o3 o4 o5, by rw [nk]; omega⟩, kt⟩
  split
  · rw [if_pos (by decide)]
    have g1 := Int.tmod_nonneg 4 l2
    have g2 := Int.tmod_lt_of_pos w (b := 4) (by decide)
    obtain ⟨s, e4, hs⟩ := at_mem (l := [(bs []), (bs [97, 32, 98]), (bs [39]), (bs [97, 97, 97, 97, 97, 97, 97, 97, 97, 97, 97, 97, 97, 97, 97, 97, 97, 97, 97, 97, 97])]) g1 (by simpa using g2)
    simp only [e4, Option.bind_some]
    have : ∀ s ∈ [(bs []), (bs [97, 32, 98]), (bs [39]), (bs [97, 97, 97, 97, 97, 97, 97, 97, 97, 97, 97, 97, 97, 97, 97, 97, 97, 97, 97, 97, 97])], s.size ≤ 100 := by decide
    have := this s hs
    have hM := maxLen_eq
    refine ⟨_, _, rfl, h3, ⟨.mk _ _ _ _ o1 ?_ o3 o4 o5, by rw [nk]; omega⟩, kt.1, by rw [mk_gName]; omega⟩
    unfold okFs; omega
  split
  · rw [if_pos (by decide)]
    have g1 := Int.tmod_nonneg 3 l2
    have g2 := Int.tmod_lt_of_pos w (b := 3) (by decide)
    obtain ⟨s, e4, hs⟩ := at_mem (l := [-1, 100000, 1000000000]) g1 (by simpa using g2)
    simp only [e4, Option.bind_some]
    refine ⟨_, _, rfl, h3, ⟨.mk _ _ _ _ o1 o2 ?_ o4 o5, by rw [nk]; omega⟩, kt⟩
    simp only [List.mem_cons, List.not_mem_nil, or_false] at hs
    have e1 : IntKind.i64.min = -9223372036854775808 := rfl
    have e2 : IntKind.i64.max = 9223372036854775807 := rfl
    unfold okI; omega
  split
  · obtain ⟨y, e4, hy⟩ := l03AnyK_L1 (k := k) (g := (c2, w)) l2 k 0 t (by omega) (by omega) ok (by omega) kt
    rw [show ((0 : Nat) : Int) = 0 from rfl] at e4
    rw [e4]
    exact ⟨_, _, rfl, h3, hy⟩
  · exact ⟨_, _, rfl, h3, ⟨ok, by omega⟩, kt⟩
/-- The first line makes a clause. -/
def first (k : Nat) : Bool := match pspec_ReadTerm k (LINES.getD 0 (bs []) ++ bs [32, 46]) with
  | some p => p.2.2 && (clOf p.1 (bs [111, 110, 101])).2
  | none => false
theorem first_ok (n : Nat) : first (n + 3000) = true := by kernel_rfl
def GoodDb (j : Nat) (d : GDb) : Prop := d.gOpen = [] ∧ d.gClauses.length ≤ j ∧ (∀ c ∈ d.gClauses, ClP c ∧ clOk c = true) ∧ (0 < j → 0 < d.gClauses.length)
theorem GoodDb.p {j : Nat} {d : GDb} (h : GoodDb j d) (hj : j ≤ 100) : DbP d := ⟨by have := h.2.1; omega, by rw [h.1]; simp, fun c hc => (h.2.2.1 c hc).1⟩
theorem dOk_of {d : GDb} (h1 : ∀ c ∈ d.gClauses, clOk c = true) (h2 : d.gClauses.length ≤ 120) (h3 : d.gOpen.length ≤ 40) : dOk d = true := by
  unfold dOk
  rw [List.all_eq_true.2 h1, decide_eq_true (by omega), decide_eq_true (by omega)]; rfl
theorem l08Db_J2 {k : Nat} (hk : 1000000 < k - maxLen) {F : Int → GDb → Option (Out (GL01Cur × GDb) GDb)} {j : Nat} {d : GDb} (hj : j < 29) (hd : GoodDb j d) {g : GClause × Bool} (hg : ClP g.1) {b : Bool}
    (hb : b = true → clOk g.1 = true) (h0 : j = 0 → b = true) (hF : ∀ e, GoodDb (j + 1) e → ∃ r, F ((j + 1 : Nat) : Int) e = some (.done r) ∧ GoodDb 29 r) : ∃ r, pspec_l08Db_J2 k F d g (j : Int) b = some (.done r) ∧ GoodDb 29 r := by
  have hM := maxLen_eq
  unfold pspec_l08Db_J2
  rw [wr_succ (m := 29) hj (by omega)]
  cases b with
  | false =>
    rw [if_neg (by decide)]
    refine hF d ⟨hd.1, by have := hd.2.1; omega, hd.2.2.1, fun _ => hd.2.2.2 (Nat.pos_of_ne_zero (fun h => by cases h0 h))⟩
  | true =>
    have hl := hd.2.1
    rw [if_pos rfl, (addBoth (hd.p (by omega)) (by omega) hg hk).1, obs]
    have hall : ∀ c ∈ d.gClauses ++ [g.1], ClP c ∧ clOk c = true := fun c hc => by
      rcases List.mem_append.1 hc with hc | hc
      · exact hd.2.2.1 c hc
      · rw [List.mem_singleton.1 hc]; exact ⟨hg, hb rfl⟩
    have e : addR d g.1 = (GDb.mk (d.gClauses ++ [g.1]) d.gOpen, true) := by
      unfold addR
      rw [if_pos (dOk_of (fun c hc => (hall c hc).2) (by simp only [List.length_append, List.length_cons, List.length_nil]; omega) (by show d.gOpen.length ≤ 40; rw [hd.1]; decide))]
    rw [e]
    exact hF _ ⟨hd.1, by simp only [List.length_append, List.length_cons, List.length_nil]; omega, hall, fun _ => by simp⟩
theorem l08Db_L1 {k : Nat} (hk : 1000000 < k - maxLen) {g : GL01Cur × Int} : ∀ (m j : Nat) (d : GDb), j ≤ 29 → 29 - j < m → GoodDb j d → ∃ e, pspec_l08Db_L1 k LINES g m (j : Int) d = some (.done e) ∧ GoodDb 29 e
  | 0, j, d, h1, h2, h3 => by omega
  | m + 1, j, d, h1, h2, h3 => by
    have hM := maxLen_eq
    have hkk := kk 4000 hk
    rw [pspec_l08Db_L1]
    by_cases hlt : j < LINES.length
    · have hj : j < 29 := by rw [lines_len] at hlt; exact hlt
      obtain ⟨p, e1, r1, r2⟩ := line_read (k := k) (by omega) (List.getElem_mem hlt)
      obtain ⟨s, e2, r3⟩ := at_mem (l := [(bs [111, 110, 101]), (bs [116, 119, 111]), (bs [])]) (Int.tmod_nonneg (a := (j : Int)) 3 (by omega)) (by have := Int.tmod_lt_of_pos (j : Int) (b := 3) (by decide); simpa using this)
      have pt := tOk_ok r1
      have e3 := (clauseBoth (s := s) hk pt.1 (by omega)).1
      rw [if_pos (by simpa using hlt), at_lt hlt, obs, if_pos r2, e1, obs, if_pos (by decide), e2, obs, e3, obs]
      have hF : ∀ e, GoodDb (j + 1) e → ∃ r, pspec_l08Db_L1 k LINES g m ((j + 1 : Nat) : Int) e = some (.done r) ∧ GoodDb 29 r := fun e he => l08Db_L1 hk m (j + 1) e (by omega) (by omega) he
      have z : j = 0 → p.2.2 = true ∧ (clOf p.1 s).2 = true := by
        intro hz
        subst hz
        have f := first_ok (k - 3000)
        rw [Nat.sub_add_cancel (by omega)] at f
        unfold first at f
        have q1 : pspec_ReadTerm k (LINES.getD 0 (bs []) ++ bs [32, 46]) = some p := e1
        have q2 : at' [(bs [111, 110, 101]), (bs [116, 119, 111]), (bs [])] (Int.tmod ((0 : Nat) : Int) 3) = some (bs [111, 110, 101]) := rfl
        rw [q2] at e2
        rw [q1] at f
        rw [← Option.some.inj e2]
        simp only [Bool.and_eq_true] at f
        exact f
      cases a : p.2.2 with
      | false =>
        rw [if_neg (by decide)]
        exact l08Db_J2 hk hj h3 (clOf_sm p.1 s) (fun h => by cases h) (fun h => by rw [(z h).1] at a; cases a) hF
      | true =>
        rw [if_pos rfl]
        cases b : (clOf p.1 s).2 with
        | false =>
          rw [if_neg (by decide)]
          exact l08Db_J2 hk hj h3 (clOf_sm p.1 s) (fun h => by cases h) (fun h => by rw [(z h).2] at b; cases b) hF
        | true =>
          rw [if_pos rfl]
          by_cases v : g.2 = 0
          · rw [if_pos (by simpa using v)]
            exact l08Db_J2 hk hj h3 (clOf_sm p.1 s) (fun _ => (clOf_right b).1) (fun _ => rfl) hF
          · rw [if_neg (by simpa using v), if_pos (by decide)]
            refine l08Db_J2 hk hj h3 (clOf_sm p.1 s) (fun _ => (clOf_right b).1) (fun hz => ?_) hF
            subst hz
            rw [show Int.tmod ((0 : Nat) : Int) 7 = 0 from rfl]
            rw [bne_iff_ne]
            exact fun h => v h.symm
    · rw [if_neg (by simpa using hlt)]
      have : j = 29 := by rw [lines_len] at hlt; omega
      subst this
      exact ⟨_, rfl, h3⟩
/-- A database that was drawn. -/
structure DG (d : GDb) : Prop where
  p : DbP d
  c : ∀ c ∈ d.gClauses, clOk c = true
  l : d.gClauses.length ≤ 29
  z : 0 < d.gClauses.length
  o : d.gOpen.length ≤ 1
theorem clOk_KT {c : GClause} (h : clOk c = true) : KT c.gHead := by
  unfold clOk at h
  rw [Bool.and_eq_true] at h
  exact tOk_KT h.1
theorem DG.k {d : GDb} (h : DG d) : DbK d := fun c hc => clOk_KT (h.c c hc)
theorem l08Db {c : GL01Cur} (h : CurOk c) {k : Nat} (hk : 1000000 < k - maxLen) : ∃ c' d, pspec_l08Db k c = some (c', d) ∧ CurOk c' ∧ DG d := by
  have hkk := kk 4000 hk
  unfold pspec_l08Db
  obtain ⟨c1, v, e1, h1, l1, u1, _⟩ := l01Below h k 7
  obtain ⟨d, e2, h2⟩ := l08Db_L1 hk (g := (c1, v)) k 0 (GDb.mk [] []) (by omega) (by omega) ⟨rfl, Nat.le_refl _, by simp, by omega⟩
  rw [show ((0 : Nat) : Int) = 0 from rfl] at e2
  obtain ⟨c2, b, e3, h3⟩ := l01Once h1 k 2
  rw [l08Lines, obs, e1, obs, e2, obs]
  simp only
  rw [e3, obs]
  have g : DG d := ⟨h2.p (by omega), fun c hc => (h2.2.2.1 c hc).2, h2.2.1, h2.2.2.2 (by omega), by rw [h2.1]; simp⟩
  cases b with
  | false => rw [if_neg (by simp)]; exact ⟨_, _, rfl, h3, g⟩
  | true =>
    rw [if_pos rfl, (openBoth g.p hk).1, obs]
    refine ⟨_, _, rfl, h3, opR_P g.p, ?_, ?_, ?_, ?_⟩ <;> unfold opR <;> rw [h2.1] <;> first | exact g.c | exact g.l | exact g.z | exact Nat.le_refl _
theorem drawDb {k : Nat} {a : List Int} (ha : a.length ≤ 1048576) (hk : 1000000 < k - maxLen) : ∃ d, pspec_DrawDb k a = some d ∧ DG d := by
  unfold pspec_DrawDb
  obtain ⟨c, e1, h1⟩ := l01New (k := k) ha (kz hk)
  obtain ⟨c', d, e2, h2, h3⟩ := l08Db h1 hk
  rw [e1, obs, e2, obs]
  exact ⟨_, rfl, h3⟩
structure DA (n : Nat) (d : GDb) : Prop where
  l : d.gClauses.length ≤ n
  z : 0 < d.gClauses.length
  o : d.gOpen.length ≤ 41
  c : ∀ c ∈ d.gClauses, ClP c
  k : DbK d
theorem DA.p {n : Nat} {d : GDb} (h : DA n d) (hn : n ≤ 200) : DbP d := ⟨by have := h.l; omega, by have := h.o; omega, h.c⟩
theorem DG.a {d : GDb} (h : DG d) : DA 29 d := ⟨h.l, h.z, by have := h.o; omega, h.p.2.2, h.k⟩
theorem DA.add {n : Nat} {d : GDb} {c : GClause} (h : DA n d) (h1 : ClP c) (h2 : KT c.gHead) : DA (n + 1) (GDb.mk (d.gClauses ++ [c]) d.gOpen) :=
  ⟨by have := h.l; simp only [List.length_append, List.length_cons, List.length_nil]; omega, by simp, h.o, fun x hx => by
    rcases List.mem_append.1 hx with hx | hx
    · exact h.c x hx
    · rw [List.mem_singleton.1 hx]; exact h1, fun x hx => by
    rcases List.mem_append.1 hx with hx | hx
    · exact h.k x hx
    · rw [List.mem_singleton.1 hx]; exact h2⟩
theorem l08Any_L1 {k : Nat} : ∀ (m j : Nat) (d : GDb), j ≤ 120 → 120 - j < m → DA (29 + j) d → ∃ e, pspec_l08Any_L1 k m (j : Int) d = some (.done e) ∧ DA 149 e
  | 0, j, d, h1, h2, h3 => by omega
  | m + 1, j, d, h1, h2, h3 => by
    have hM := maxLen_eq
    have := h3.l
    rw [pspec_l08Any_L1]
    by_cases hlt : j < 120
    · have a0 : at' d.gClauses 0 = some (d.gClauses[0]'h3.z) := at_lt (n := 0) h3.z
      rw [if_pos (by rw [decide_eq_true_eq]; omega), a0, obs, if_pos (by simp only [List.length_cons, List.length_nil]; omega), wr_succ (m := 120) hlt (by omega)]
      exact l08Any_L1 m (j + 1) _ (by omega) (by omega) (h3.add (h3.c _ (List.getElem_mem h3.z)) (h3.k _ (List.getElem_mem h3.z)))
    · rw [if_neg (by rw [decide_eq_true_eq]; omega)]
      have : j = 120 := by omega
      subst this
      exact ⟨_, rfl, h3⟩
theorem AnyT.sm {x : GTerm} (h : AnyT x) : SmT x := ⟨h.1, by have := h.2; omega⟩
theorem l08Any {c : GL01Cur} (h : CurOk c) {k : Nat} (hk : 1000000 < k - maxLen) : ∃ c' d, pspec_l08Any k c = some (c', d) ∧ CurOk c' ∧ DA 149 d := by
  have hkk := kk 4000 hk
  unfold pspec_l08Any
  obtain ⟨c1, v, e1, h1, l1, u1, _⟩ := l01Below h k 10
  obtain ⟨c2, d, e2, h2, g⟩ := l08Db h1 hk
  have ga := g.a
  have gl := g.l
  have up : ∀ {n : Nat} {e : GDb}, n ≤ 149 → DA n e → DA 149 e := fun hn h => ⟨by have := h.l; omega, h.z, h.o, h.c, h.k⟩
  rw [e1, obs, e2, obs, g.p.l08 k, obs]
  split
  · obtain ⟨c3, x, e3, h3, x1, x2⟩ := l03AnyK h2 hk
    obtain ⟨c4, y, e4, h4, y1, y2⟩ := l03AnyK h3 hk
    simp only [e3, e4, obs]
    rw [if_pos (by simp only [List.length_cons, List.length_nil]; omega)]
    exact ⟨_, _, rfl, h4, up (by omega) (ga.add ⟨x1.sm, y1.sm⟩ x2)⟩
  split
  · obtain ⟨e, e3, h3⟩ := l08Any_L1 (k := k) k 0 d (by omega) (by omega) ga
    rw [show ((0 : Nat) : Int) = 0 from rfl] at e3
    rw [e3, obs]
    exact ⟨_, _, rfl, h2, h3⟩
  split
  · rw [if_pos (by decide)]
    exact ⟨_, _, rfl, h2, ⟨by show d.gClauses.length ≤ 149; omega, ga.z, by show (List.replicate _ _).length ≤ 41; rw [List.length_replicate]; decide, ga.c, ga.k⟩⟩
  · exact ⟨_, _, rfl, h2, up (by omega) ga⟩
theorem drawAdded {k : Nat} {a : List Int} (ha : a.length ≤ 1048576) (hk : 1000000 < k - maxLen) : ∃ d c, pspec_DrawAdded k a = some (d, c) ∧ DA 149 d ∧ ClP c := by
  unfold pspec_DrawAdded
  obtain ⟨c, e1, h1⟩ := l01New (k := k) ha (kz hk)
  obtain ⟨x, e2, h2, h3, _⟩ := drawClauseTerm (k := k) ha hk
  obtain ⟨c', d, e3, h4, h5⟩ := l08Any h1 hk
  simp only [e1, e2, e3, obs]
  exact ⟨_, _, rfl, h5, h2, h3⟩
theorem drawKnown {k : Nat} {a : List Int} (ha : a.length ≤ 1048576) (hk : 1000000 < k - maxLen) : ∃ d s, pspec_DrawKnown k a = some (d, s) ∧ DA 149 d := by
  unfold pspec_DrawKnown pspec_DrawClausesOf pspec_l08Pred
  obtain ⟨c, e1, h1⟩ := l01New (k := k) ha (kz hk)
  obtain ⟨c1, s, e2, h2, _⟩ := l01Pick h1 k (l := [(bs [112, 47, 49]), (bs [113, 47, 49]), (bs [97, 112, 112, 47, 51]), (bs [110, 111, 110, 101, 47, 48]), (bs [117, 110, 107, 110, 111, 119, 110, 47, 49]), (bs [116, 114, 117, 101, 47, 48]), (bs [44, 47, 50]), (bs [])]) (by decide)
  obtain ⟨c', d, e3, h4, h5⟩ := l08Any h2 hk
  simp only [e1, e2, e3, obs]
  exact ⟨_, _, rfl, h5⟩
theorem drawPredOf {k : Nat} {a : List Int} (ha : a.length ≤ 1048576) (hk : 1000000 < k - maxLen) : ∃ t, pspec_DrawPredOf k a = some t ∧ KT t := by
  unfold pspec_DrawPredOf
  obtain ⟨c, e1, h1⟩ := l01New (k := k) ha (kz hk)
  obtain ⟨c', t, e2, h2, h3, h4⟩ := l03AnyK h1 hk
  simp only [e1, e2, obs]
  exact ⟨_, rfl, h4⟩
/-! the law -/
theorem cz_no : dOk (GDb.mk [cz] []) = false := by
  have : clOk cz = false := by
    unfold clOk
    rw [show tOk cz.gHead = false from zt_not]; rfl
  unfold dOk
  rw [List.all_cons, this]; rfl
theorem cz_P : DbP (GDb.mk [cz] []) := ⟨by simp, by simp, fun c hc => by rw [List.mem_singleton.1 hc]; exact sm_cz⟩
/-- A right clause, written as a term and read again. -/
theorem again {c : GClause} {s : ByteArray} (h1 : clOk c = true) (h2 : c.gBody.gKind ≠ 1) (ht : tOk (TC c) = true) : clOf (TC c) s = (GClause.mk c.gHead c.gBody s, true) := by
  have r : isR (TC c) = true := by unfold isR TC; rw [mk_gKind, mk_gName, mk_gKids, sEq_refl]; rfl
  have e : cR (TC c) s = GClause.mk c.gHead c.gBody s := by
    unfold cR
    rw [r, if_pos rfl]
    show GClause.mk c.gHead (cB c.gBody) s = _
    unfold cB
    rw [if_neg h2]
  have o : cO (GClause.mk c.gHead c.gBody s) = true := by
    unfold clOk at h1
    unfold cO
    simp only [Bool.and_eq_true] at h1 ⊢
    exact ⟨h1.2.2, h1.2.1⟩
  unfold clOf
  rw [if_pos ht, e, if_pos o]
theorem at_last {α : Type} (l : List α) (x : α) : at' (l ++ [x]) (l.length : Int) = some x := by
  rw [at_nat, List.getElem?_append_right (Nat.le_refl _), Nat.sub_self]; rfl
theorem law (a : List Int) (ha : okL (okI .u8) a) : ∃ k, plaws_FnClauses k a = some true := by
  obtain ⟨k, hk⟩ : ∃ k, 1000000 < k - maxLen := ⟨1000001 + maxLen, by rw [Nat.add_sub_cancel]; decide⟩
  refine ⟨k, ?_⟩
  have hM := maxLen_eq
  unfold plaws_FnClauses plaws_big
  rw [obs]
  by_cases hb : (a.length : Int) > 1048576
  · rw [if_pos (by simpa using hb)]
  rw [if_neg (by simpa using hb)]
  have hl : a.length ≤ 1048576 := by omega
  obtain ⟨d, e1, h1⟩ := drawDb (k := k) hl hk
  obtain ⟨t, s, e2, t1, t2, _⟩ := drawClauseOf (k := k) hl hk
  have e3 := clauseBoth (s := s) hk t1 (by omega)
  obtain ⟨d2, c2, e4, h4, hc2⟩ := drawAdded (k := k) hl hk
  have p4 := h4.p (by omega)
  have l4 := h4.l
  have e5 := addBoth p4 (by omega) hc2 hk
  have p5 := addR_P p4 (by omega) hc2
  obtain ⟨d3, s3, e6, h6⟩ := drawKnown (k := k) hl hk
  have p6 := h6.p (by omega)
  obtain ⟨u, e7, h7⟩ := drawPredOf (k := k) hl hk
  have hcl := clOf_sm t s
  have f1 := same_t (show nT (clOf t s).1.gHead ≤ 1000 by have := hcl.1.2; omega) hk
  have f2 := same_t (show nT (clOf t s).1.gBody ≤ 1000 by have := hcl.2.2; omega) hk
  have f3 := sameDb p5 hk
  have f4 := knownBoth (s := s3) p6 h6.k hk
  have f5 := clsBoth (s := s3) p6 h6.k hk
  have f6 := openBoth (s := s3) p6 hk
  have f7 := sameDb (opR_P (s := s3) p6) hk
  have f8 := predBoth h7 (kz hk)
  have f9 := dbBoth p4 hk
  simp only [e1, e2, e3.1, e3.2, e4, e5.1, e5.2, e6, e7, f1, f2, f3, f4.1, f4.2, f5.1, f5.2, f6.1, f6.2, f7, impl_Control s3 (kz hk), spec_Control, f8.1, f8.2, f9.1, f9.2, sEq_refl, obs, beq_self_eq_true, bne_self_eq_false, Bool.not_true, Bool.false_eq_true, if_false]
  cases hok : (clOf t s).2 with
  | false =>
    rw [if_pos (by decide), clOf_no hok, (dbBoth cz_P hk).2, obs, cz_no]; rfl
  | true =>
    rw [if_neg (by decide)]
    obtain ⟨r1, r2, _⟩ := clOf_right hok
    generalize hc : (clOf t s).1 = c at r1 r2 hcl f1 f2
    have g1 := h1.l
    have gp := h1.p.add (by omega) hcl
    have gall : ∀ x ∈ d.gClauses ++ [c], clOk x = true := fun x hx => by
      rcases List.mem_append.1 hx with hx | hx
      · exact h1.c x hx
      · rw [List.mem_singleton.1 hx]; exact r1
    have gk : DbK (GDb.mk (d.gClauses ++ [c]) d.gOpen) := fun x hx => clOk_KT (gall x hx)
    have ga : addR d c = (GDb.mk (d.gClauses ++ [c]) d.gOpen, true) := by
      unfold addR
      rw [if_pos (dOk_of gall (by simp only [List.length_append, List.length_cons, List.length_nil]; omega) (by have := h1.o; show d.gOpen.length ≤ 40; omega))]
    have i1 := addBoth h1.p (by omega) hcl hk
    have i2 := termBoth hcl hk
    have n2 := TC_n hcl
    have i3 := (clauseBoth (s := s) hk (TC_ok hcl) (by omega)).2
    have i4 := predBoth (clOk_KT r1) (kz hk)
    have i5 := (clsBoth (s := predS c.gHead) gp gk hk).2
    have i6 := (knownBoth (s := predS c.gHead) gp gk hk).2
    have i7 := (dbBoth h1.p hk).2
    have k6 : kn (GDb.mk (d.gClauses ++ [c]) d.gOpen) (predS c.gHead) = true := by
      unfold kn
      rw [Bool.or_eq_true]
      exact .inr (List.any_eq_true.2 ⟨c, by simp, sEq_refl _⟩)
    have k7 : dOk d = true := dOk_of h1.c (by omega) (by have := h1.o; omega)
    have k5 : ∃ F : List GClause, F.length ≤ 29 ∧ cls (GDb.mk (d.gClauses ++ [c]) d.gOpen) (predS c.gHead) = F ++ [c] := by
      refine ⟨d.gClauses.filter (mt (predS c.gHead)), Nat.le_trans (List.length_filter_le _ _) g1, ?_⟩
      unfold cls
      rw [List.filter_append]
      have : mt (predS c.gHead) c = true := sEq_refl _
      rw [List.filter_cons, if_pos this]; rfl
    obtain ⟨F, F1, F2⟩ := k5
    rw [F2] at i5
    have w : wr.i64 (((F ++ [c]).length : Int) - 1) = (F.length : Int) := by
      rw [List.length_append, List.length_cons, List.length_nil, wr_i64 (by omega) (by omega)]; omega
    rw [i1.2, obs, i2.2, obs, i3, obs, i4.2, obs, ga]
    simp only
    rw [i5, obs, if_pos trivial, i2.1, obs, (show pspec_TermOk k (TC c) = some (tOk (TC c)) from spec_TermOk (by have := kk 2000 hk; omega) (TC_ok hcl)), obs]
    have fin : ((at' (F ++ [c]) (wr.i64 (((F ++ [c]).length : Int) - 1))).bind fun f928_ =>
                (pspec_SameTerm k f928_.gHead c.gHead).bind fun e929_ =>
                if e929_ = true then
                  (some (predS c.gHead)).bind fun d930_ =>
                  (pimpl_Known k (GDb.mk (d.gClauses ++ [c]) d.gOpen) d930_).bind fun e931_ =>
                  if e931_ = true then
                    (pimpl_DbOk k d).bind fun e932_ =>
                    some e932_
                  else
                    some false
                else
                  some false) = some true := by
      rw [w, at_last, obs, f1, obs, if_pos rfl, obs, i6, obs, k6, if_pos rfl, i7, obs, k7]
    cases ht : tOk (TC c) with
    | false => rw [if_pos (by decide)]; exact fin
    | true =>
      rw [if_neg (by decide), again r1 r2 ht]
      simp only
      rw [if_pos trivial, f1, obs, if_pos rfl, f2, obs, if_pos rfl]
      exact fin
end FnClauses
end Go.Proofs.YthemaodhckmnkaaGreatDoor

/- The law, plainly. -/
import Derived.Test.YtcdbdmokaihcoaaFn
set_option linter.unusedVariables false
set_option linter.unusedSimpArgs false
namespace Go.Proofs.Ytcdbdmokaihcoaa
open Go.RowKit Go.Bv
namespace FnUnifiesMost
mutual
/-- How many terms stand in a term. -/
def nT : GTerm → Nat
  | .mk _ _ _ l => nTs l
def nTs : List GTerm → Nat
  | [] => 0
  | x :: l => 1 + nT x + nTs l
end
theorem nTs_eq : ∀ l : List GTerm, nTs l = nsum nT l
  | [] => by rw [nTs]; rfl
  | x :: l => by rw [nTs, nsum, nTs_eq l]
theorem nT_kids (x : GTerm) : nT x = nsum nT x.gKids := by
  cases x with
  | mk a b c l => rw [nT, nTs_eq]; rfl

theorem ok_kids {x : GTerm} (h : x.ok) : okL GTerm.ok x.gKids := by cases h with | mk a b c l h1 h2 h3 h4 h5 => exact ⟨h4, h5⟩
theorem ok_name {x : GTerm} (h : x.ok) : okFs x.gName := by cases h with | mk a b c l h1 h2 h3 h4 h5 => exact h2
theorem ok_kind {x : GTerm} (h : x.ok) : okI .i64 x.gKind := by cases h with | mk a b c l h1 h2 h3 h4 h5 => exact h1
theorem ok_num {x : GTerm} (h : x.ok) : okI .i64 x.gNum := by cases h with | mk a b c l h1 h2 h3 h4 h5 => exact h3

theorem mk_gKind (a : Int) (b : ByteArray) (c : Int) (l : List GTerm) : (GTerm.mk a b c l).gKind = a := rfl
theorem mk_gName (a : Int) (b : ByteArray) (c : Int) (l : List GTerm) : (GTerm.mk a b c l).gName = b := rfl
theorem mk_gNum (a : Int) (b : ByteArray) (c : Int) (l : List GTerm) : (GTerm.mk a b c l).gNum = c := rfl
theorem mk_gKids (a : Int) (b : ByteArray) (c : Int) (l : List GTerm) : (GTerm.mk a b c l).gKids = l := rfl

/-- Is it within these bounds? -/
def inR (x a b : Int) : Bool := decide (a ≤ x ∧ x ≤ b)
theorem inR_t {x a b : Int} (h : a ≤ x ∧ x ≤ b) : inR x a b = true := decide_eq_true h
theorem inR_f {x a b : Int} (h : ¬ (a ≤ x ∧ x ≤ b)) : inR x a b = false := decide_eq_false h

theorem l01In (k : Nat) (x a b : Int) : pspec_l01In k x a b = some (inR x a b) := by
  unfold pspec_l01In inR
  by_cases h : a ≤ x
  · rw [if_pos (by simpa using h)]; simp [h]
  · rw [if_neg (by simpa using h)]; simp [h]

theorem within (k : Nat) (x a b : Int) : pimpl_within k x a b = some (inR x a b) := by
  unfold pimpl_within inR
  by_cases h : a ≤ x
  · rw [if_pos (by simpa using h)]; simp [h]
  · rw [if_neg (by simpa using h)]; simp [h]
theorem bt_le (s : ByteArray) (i : Int) : 0 ≤ bt s i ∧ bt s i ≤ 255 := by
  unfold bt
  have : ((s[i.toNat]?).getD 0).toNat < 256 := ((s[i.toNat]?).getD 0).toNat_lt
  omega
/-- A byte that a name may have. -/
def gb (s : ByteArray) (i : Nat) : Prop := 33 ≤ bt s (i : Int) ∧ bt s (i : Int) ≤ 126 ∧ bt s (i : Int) ≠ 39 ∧ bt s (i : Int) ≠ 34
instance (s : ByteArray) (i : Nat) : Decidable (gb s i) := by unfold gb; infer_instance
/-- A name. -/
def nmOk (s : ByteArray) : Prop := (∀ i, i < s.size → gb s i) ∧ 1 ≤ s.size ∧ s.size ≤ 20
instance (s : ByteArray) : Decidable (nmOk s) := by unfold nmOk; infer_instance

theorem l03Name_L1 (k : Nat) (s : ByteArray) (hs : s.size ≤ maxLen) : ∀ (m n : Nat), n ≤ s.size → s.size - n < m →
    ∃ o, pspec_l03Name_L1 k s m (n : Int) = some o ∧ (match o with | .ret r => r = false ∧ ∃ i, i < s.size ∧ ¬ gb s i | .done _ => ∀ i, n ≤ i → i < s.size → gb s i)
  | 0, n, h1, h2 => by omega
  | m + 1, n, h1, h2 => by
    unfold pspec_l03Name_L1
    by_cases hlt : n < s.size
    · have hg : 0 ≤ (n : Int) ∧ (n : Int).toNat < s.size := ⟨by omega, by simpa using hlt⟩
      have bad : ∀ b : Prop, (gb s n → ¬ b) → b → ∃ o, (some (Out.ret false) : Option (Out Bool Unit)) = some o ∧ (match o with | .ret r => r = false ∧ ∃ i, i < s.size ∧ ¬ gb s i | .done _ => ∀ i, n ≤ i → i < s.size → gb s i) :=
        fun b h hb => ⟨_, rfl, rfl, n, hlt, fun h' => h h' hb⟩
      rw [if_pos (by simpa using hlt), if_pos hg]
      by_cases c1 : bt s (n : Int) < 33
      · rw [if_pos (by simpa using c1)]; exact bad _ (fun h => by have := h.1; omega) c1
      rw [if_neg (by simpa using c1), if_pos hg]
      by_cases c2 : bt s (n : Int) > 126
      · rw [if_pos (by simpa using c2)]; exact bad _ (fun h => by have := h.2.1; omega) c2
      rw [if_neg (by simpa using c2), if_pos hg]
      by_cases c3 : bt s (n : Int) = 39
      · rw [if_pos (by simpa using c3)]; exact bad _ (fun h => h.2.2.1) c3
      rw [if_neg (by simpa using c3), if_pos hg]
      by_cases c4 : bt s (n : Int) = 34
      · rw [if_pos (by simpa using c4)]; exact bad _ (fun h => h.2.2.2) c4
      rw [if_neg (by simpa using c4), wr_succ hlt hs]
      obtain ⟨o, h3, h4⟩ := l03Name_L1 k s hs m (n + 1) (by omega) (by omega)
      refine ⟨o, h3, ?_⟩
      cases o with
      | ret r => exact h4
      | done u =>
        intro i hi1 hi2
        by_cases e : i = n
        · subst e; exact ⟨by omega, by omega, c3, c4⟩
        · exact h4 i (by omega) hi2
    · rw [if_neg (by simpa using hlt)]
      exact ⟨_, rfl, fun i h3 h4 => by omega⟩

theorem nameOk_L1 (k : Nat) (s : ByteArray) (hs : s.size ≤ maxLen) : ∀ (m n : Nat), n ≤ s.size → s.size - n < m →
    ∃ o, pimpl_nameOk_L1 k s m (n : Int) = some o ∧ (match o with | .ret r => r = false ∧ ∃ i, i < s.size ∧ ¬ gb s i | .done _ => ∀ i, n ≤ i → i < s.size → gb s i)
  | 0, n, h1, h2 => by omega
  | m + 1, n, h1, h2 => by
    unfold pimpl_nameOk_L1
    by_cases hlt : n < s.size
    · have hg : 0 ≤ (n : Int) ∧ (n : Int).toNat < s.size := ⟨by omega, by simpa using hlt⟩
      have hb := bt_le s (n : Int)
      have bad : ∀ b : Prop, (gb s n → ¬ b) → b → ∃ o, (some (Out.ret false) : Option (Out Bool Unit)) = some o ∧ (match o with | .ret r => r = false ∧ ∃ i, i < s.size ∧ ¬ gb s i | .done _ => ∀ i, n ≤ i → i < s.size → gb s i) :=
        fun b h hb => ⟨_, rfl, rfl, n, hlt, fun h' => h h' hb⟩
      rw [if_pos (by simpa using hlt), if_pos hg, within, wr_i64 (by omega) (by omega)]
      simp only [Option.bind_some]
      by_cases c1 : 33 ≤ bt s (n : Int) ∧ bt s (n : Int) ≤ 126
      · rw [inR_t c1, if_neg (by simp), if_pos hg]
        by_cases c3 : bt s (n : Int) = 39
        · rw [if_pos (by simpa using c3)]; exact bad _ (fun h => h.2.2.1) c3
        rw [if_neg (by simpa using c3), if_pos hg]
        by_cases c4 : bt s (n : Int) = 34
        · rw [if_pos (by simpa using c4)]; exact bad _ (fun h => h.2.2.2) c4
        rw [if_neg (by simpa using c4), wr_succ hlt hs]
        obtain ⟨o, h3, h4⟩ := nameOk_L1 k s hs m (n + 1) (by omega) (by omega)
        refine ⟨o, h3, ?_⟩
        cases o with
        | ret r => exact h4
        | done u =>
          intro i hi1 hi2
          by_cases e : i = n
          · subst e; exact ⟨by omega, by omega, c3, c4⟩
          · exact h4 i (by omega) hi2
      · rw [inR_f c1, if_pos (by simp)]
        exact bad _ (fun h => by have := h.1; have := h.2.1; omega) c1
    · rw [if_neg (by simpa using hlt)]
      exact ⟨_, rfl, fun i h3 h4 => by omega⟩

theorem nm_of {s : ByteArray} (h : ∀ i, 0 ≤ i → i < s.size → gb s i) : inR (s.size : Int) 1 20 = decide (nmOk s) := by
  unfold inR
  rw [decide_eq_decide]
  unfold nmOk
  constructor
  · intro h1; exact ⟨fun i hi => h i (by omega) hi, by omega, by omega⟩
  · intro h1; obtain ⟨_, h5, h6⟩ := h1; omega

theorem l03Name {k : Nat} {s : ByteArray} (hs : s.size ≤ maxLen) (hk : maxLen < k) : pspec_l03Name k s = some (decide (nmOk s)) := by
  unfold pspec_l03Name
  obtain ⟨o, h1, h2⟩ := l03Name_L1 k s hs k 0 (by omega) (by omega)
  rw [show ((0 : Nat) : Int) = 0 from rfl] at h1
  rw [h1]
  cases o with
  | ret r =>
    obtain ⟨rfl, i, h3, h4⟩ := h2
    have : ¬ nmOk s := fun h => h4 (h.1 i h3)
    simp [this]
  | done u =>
    simp only [Option.bind_some]
    rw [l01In]
    simp only [Option.bind_some]
    rw [nm_of h2]

theorem nameOk {k : Nat} {s : ByteArray} (hs : s.size ≤ maxLen) (hk : maxLen < k) : pimpl_nameOk k s = some (decide (nmOk s)) := by
  unfold pimpl_nameOk
  obtain ⟨o, h1, h2⟩ := nameOk_L1 k s hs k 0 (by omega) (by omega)
  rw [show ((0 : Nat) : Int) = 0 from rfl] at h1
  rw [h1]
  cases o with
  | ret r =>
    obtain ⟨rfl, i, h3, h4⟩ := h2
    have : ¬ nmOk s := fun h => h4 (h.1 i h3)
    simp [this]
  | done u =>
    simp only [Option.bind_some]
    rw [within]
    simp only [Option.bind_some]
    rw [nm_of h2]

/-- The head of a term is as it should be. -/
def one (x : GTerm) : Bool :=
  if x.gKind = 1 then inR x.gNum 0 99999 && (sEq x.gName (bs []) && ((x.gKids.length : Int) == 0))
  else if x.gKind = 2 then decide (nmOk x.gName) && ((x.gNum == 0) && ((x.gKids.length : Int) == 0))
  else if x.gKind = 3 then inR x.gNum (-999999999) 999999999 && (sEq x.gName (bs []) && ((x.gKids.length : Int) == 0))
  else if x.gKind = 4 then decide (nmOk x.gName) && ((x.gNum == 0) && inR (x.gKids.length : Int) 1 5)
  else false
mutual
/-- A term, at a depth, is as it should be. -/
def gT : Int → GTerm → Bool
  | d, .mk a b c l => decide (d ≤ 40) && (one (.mk a b c l) && gTs (d + 1) l)
def gTs : Int → List GTerm → Bool
  | _, [] => true
  | d, x :: l => gT d x && gTs d l
end
theorem gT_eq (d : Int) (x : GTerm) : gT d x = (decide (d ≤ 40) && (one x && gTs (d + 1) x.gKids)) := by
  cases x with
  | mk a b c l => rw [gT]; rfl
theorem gTs_drop {d : Int} {l : List GTerm} {j : Nat} (h : j < l.length) : gTs d (l.drop j) = (gT d l[j] && gTs d (l.drop (j + 1))) := by
  rw [List.drop_eq_getElem_cons h, gTs]
theorem ns_drop {l : List GTerm} {j : Nat} (h : j < l.length) : nsum nT (l.drop j) = 1 + nT l[j] + nsum nT (l.drop (j + 1)) := by
  rw [List.drop_eq_getElem_cons h, nsum]

theorem l03One {k : Nat} {x : GTerm} (hx : x.ok) (hk : maxLen < k) : pspec_l03One k x = some (one x) := by
  have hn := l03Name (k := k) (s := x.gName) (ok_name hx) hk
  unfold pspec_l03One one
  simp only [hn, l01In, Option.bind_some]
  by_cases c1 : x.gKind = 1
  · rw [if_pos (by simpa using c1), if_pos c1]
    cases inR x.gNum 0 99999 <;> cases sEq x.gName (bs []) <;> simp
  rw [if_neg (by simpa using c1), if_neg c1]
  by_cases c2 : x.gKind = 2
  · rw [if_pos (by simpa using c2), if_pos c2]
    cases decide (nmOk x.gName) <;> by_cases h : x.gNum = 0 <;> simp [h]
  rw [if_neg (by simpa using c2), if_neg c2]
  by_cases c3 : x.gKind = 3
  · rw [if_pos (by simpa using c3), if_pos c3]
    cases inR x.gNum (-999999999) 999999999 <;> cases sEq x.gName (bs []) <;> simp
  rw [if_neg (by simpa using c3), if_neg c3]
  by_cases c4 : x.gKind = 4
  · rw [if_pos (by simpa using c4), if_pos c4]
    cases decide (nmOk x.gName) <;> by_cases h : x.gNum = 0 <;> simp [h]
  · rw [if_neg (by simpa using c4), if_neg c4]

/-- What is left of so many terms. -/
def leftOf (v left : Int) (n : Nat) : Prop := -1 ≤ v ∧ (0 ≤ v ↔ (n : Int) ≤ left) ∧ (0 ≤ v → v = left - (n : Int))
theorem l03Count_L1 {k : Nat} {x : GTerm} {f : GTerm → Int → Option Int} (hx : x.gKids.length ≤ maxLen) (hf : ∀ y ∈ x.gKids, ∀ b, 0 ≤ b → b ≤ 401 → ∃ v, f y b = some v ∧ leftOf v b (1 + nT y)) :
    ∀ (m j : Nat) (b : Int), j ≤ x.gKids.length → x.gKids.length - j < m → -1 ≤ b → b ≤ 401 →
      ∃ v, pspec_l03Count_L1 k f x m b (j : Int) = some (.done v) ∧ ((b = -1 ∧ v = -1) ∨ (0 ≤ b ∧ leftOf v b (nsum nT (x.gKids.drop j))))
  | 0, j, b, h1, h2, h3, h4 => by omega
  | m + 1, j, b, h1, h2, h3, h4 => by
    unfold pspec_l03Count_L1
    by_cases hlt : j < x.gKids.length
    · rw [if_pos (by simpa using hlt)]
      by_cases hb : 0 ≤ b
      · rw [if_pos (by simpa using hb), at_lt hlt]
        simp only [Option.bind_some]
        obtain ⟨v, e, g1, g2, g3⟩ := hf _ (List.getElem_mem hlt) b hb h4
        rw [e]
        simp only [Option.bind_some]
        rw [wr_succ hlt hx]
        obtain ⟨u, e2, h5⟩ := l03Count_L1 (k := k) hx hf m (j + 1) v (by omega) (by omega) g1 (by by_cases h : 0 ≤ v <;> omega)
        refine ⟨u, e2, .inr ⟨hb, ?_⟩⟩
        rw [ns_drop hlt]
        rcases h5 with ⟨rfl, rfl⟩ | ⟨h6, h7, h8, h9⟩
        · refine ⟨by omega, ⟨fun h => by omega, fun h => by have := g2.2 (by omega); omega⟩, fun h => by omega⟩
        · have := g3 h6
          have := g2.1 h6
          refine ⟨h7, ⟨fun h => by have := h8.1 h; omega, fun h => h8.2 (by omega)⟩, fun h => by have := h9 h; omega⟩
      · rw [if_neg (by simpa using hb)]
        exact ⟨b, rfl, .inl ⟨by omega, by omega⟩⟩
    · rw [if_neg (by simpa using hlt)]
      rw [List.drop_of_length_le (by omega)]
      by_cases hb : 0 ≤ b
      · exact ⟨b, rfl, .inr ⟨hb, h3, by simp only [nsum]; omega, fun _ => by simp only [nsum]; omega⟩⟩
      · exact ⟨b, rfl, .inl ⟨by omega, by omega⟩⟩

theorem l03Count : ∀ (k : Nat) (x : GTerm), maxLen + 2 * nT x + 2 < k → x.ok → ∀ b : Int, 0 ≤ b → b ≤ 401 → ∃ v, pspec_l03Count k x b = some v ∧ leftOf v b (1 + nT x)
  | 0, x, h => by omega
  | k + 1, x, hw => by
    intro hx b h0 h1
    have hn := nT_kids x
    unfold pspec_l03Count
    rw [wr_i64 (by omega) (by omega)]
    obtain ⟨v, e, h⟩ := l03Count_L1 (k := k) (x := x) (ok_kids hx).1 (fun y hy b h0 h1 => by have := nsum_mem (n := nT) hy; exact l03Count k y (by omega) ((ok_kids hx).2 y hy) b h0 h1) k 0 (b - 1) (by omega) (by have := (ok_kids hx).1; omega) (by omega) (by omega)
    rw [show ((0 : Nat) : Int) = 0 from rfl] at e
    rw [e]
    refine ⟨v, rfl, ?_⟩
    rw [List.drop_zero, ← hn] at h
    rcases h with ⟨h2, rfl⟩ | ⟨h2, h3, h4, h5⟩
    · exact ⟨by omega, ⟨fun h => by omega, fun h => by omega⟩, fun h => by omega⟩
    · exact ⟨h3, ⟨fun h => by have := h4.1 h; omega, fun h => h4.2 (by omega)⟩, fun h => by have := h5 h; omega⟩

theorem l03Right_L1 {k : Nat} {x : GTerm} {d : Int} {f : GTerm → Int → Option Bool} (hx : x.gKids.length ≤ maxLen) (hd : wr.i64 (d + 1) = d + 1) (hf : ∀ y ∈ x.gKids, f y (d + 1) = some (gT (d + 1) y)) :
    ∀ (m j : Nat), j ≤ x.gKids.length → x.gKids.length - j < m → pspec_l03Right_L1 k f x d m (j : Int) = some (if gTs (d + 1) (x.gKids.drop j) then .done () else .ret false)
  | 0, j, h1, h2 => by omega
  | m + 1, j, h1, h2 => by
    unfold pspec_l03Right_L1
    by_cases hlt : j < x.gKids.length
    · rw [if_pos (by simpa using hlt), at_lt hlt, hd]
      simp only [Option.bind_some, hf _ (List.getElem_mem hlt)]
      rw [gTs_drop hlt]
      cases hg : gT (d + 1) x.gKids[j] with
      | false => simp
      | true =>
        rw [if_neg (by simp), wr_succ hlt hx, l03Right_L1 hx hd hf m (j + 1) (by omega) (by omega)]
        simp
    · rw [if_neg (by simpa using hlt), List.drop_of_length_le (by omega), gTs]; rfl

theorem l03Right : ∀ (k : Nat) (x : GTerm), maxLen + 2 * nT x + 2 < k → x.ok → ∀ d : Int, 0 ≤ d → d ≤ 41 → pspec_l03Right k x d = some (gT d x)
  | 0, x, h => by omega
  | k + 1, x, hw => by
    intro hx d h0 h1
    have hn := nT_kids x
    unfold pspec_l03Right
    rw [gT_eq]
    by_cases hd : d > 40
    · rw [if_pos (by simpa using hd)]; simp; omega
    · rw [if_neg (by simpa using hd), l03One hx (by omega)]
      simp only [Option.bind_some]
      cases h1 : one x with
      | false => simp
      | true =>
        rw [if_neg (by simp)]
        have e := l03Right_L1 (k := k) (x := x) (d := d) (ok_kids hx).1 (wr_i64 (by omega) (by omega)) (fun y hy => by have := nsum_mem (n := nT) hy; exact l03Right k y (by omega) ((ok_kids hx).2 y hy) (d + 1) (by omega) (by omega)) k 0 (by omega) (by have := (ok_kids hx).1; omega)
        rw [show ((0 : Nat) : Int) = 0 from rfl, List.drop_zero] at e
        rw [e]
        cases gTs (d + 1) x.gKids <;> simp <;> omega

/-- A term is right. -/
def tOk (x : GTerm) : Bool := decide (1 + nT x ≤ 400) && gT 1 x
theorem spec_TermOk {k : Nat} {x : GTerm} (hw : maxLen + 2 * nT x + 2 < k) (hx : x.ok) : pspec_TermOk k x = some (tOk x) := by
  unfold pspec_TermOk tOk
  obtain ⟨v, e, h1, h2, h3⟩ := l03Count k x hw hx 400 (by omega) (by omega)
  rw [e]
  simp only [Option.bind_some]
  by_cases hv : 0 ≤ v
  · rw [if_pos (by simpa using hv), l03Right k x hw hx 1 (by omega) (by omega)]
    have := h2.1 hv
    simp; omega
  · rw [if_neg (by simpa using hv)]
    have : ¬ (1 + nT x ≤ 400) := fun h => hv (h2.2 (by omega))
    simp [this]

/-- What the program counts. -/
def cnt (d : Int) (x : GTerm) : Int := if gT d x && decide (1 + nT x ≤ 400) then ((1 + nT x : Nat) : Int) else 401
theorem sized_L2 {k : Nat} {x : GTerm} {d : Int} {f : GTerm → Int → Option Int} (hx : x.gKids.length ≤ maxLen) (hd : wr.i64 (d + 1) = d + 1) (hf : ∀ y ∈ x.gKids, f y (d + 1) = some (cnt (d + 1) y)) :
    ∀ (m j : Nat) (b : Int), j ≤ x.gKids.length → x.gKids.length - j < m → 1 ≤ b → b ≤ 400 →
      pimpl_sized_L2 k f x d m b (j : Int) = some (if gTs (d + 1) (x.gKids.drop j) && decide (b + (nsum nT (x.gKids.drop j) : Int) ≤ 400) then .done (b + (nsum nT (x.gKids.drop j) : Int)) else .ret 401)
  | 0, j, b, h1, h2, h3, h4 => by omega
  | m + 1, j, b, h1, h2, h3, h4 => by
    unfold pimpl_sized_L2
    by_cases hlt : j < x.gKids.length
    · rw [if_pos (by simpa using hlt), at_lt hlt, hd]
      simp only [Option.bind_some, hf _ (List.getElem_mem hlt)]
      rw [gTs_drop hlt, ns_drop hlt, wr_succ hlt hx]
      by_cases hg : gT (d + 1) x.gKids[j] = true ∧ 1 + nT x.gKids[j] ≤ 400
      · have hc : cnt (d + 1) x.gKids[j] = ((1 + nT x.gKids[j] : Nat) : Int) := by unfold cnt; rw [if_pos (by simpa using hg)]
        rw [hc, wr_i64 (by omega) (by omega)]
        by_cases hs : b + ((1 + nT x.gKids[j] : Nat) : Int) > 400
        · rw [if_pos (by simpa using hs), if_neg]
          simp only [Bool.and_eq_true, decide_eq_true_eq, not_and]
          intro _; omega
        · rw [if_neg (by simpa using hs), sized_L2 hx hd hf m (j + 1) _ (by omega) (by omega) (by omega) (by omega), hg.1, Bool.true_and]
          have e1 : b + ((1 + nT x.gKids[j] : Nat) : Int) + (nsum nT (x.gKids.drop (j + 1)) : Int) = b + ((1 + nT x.gKids[j] + nsum nT (x.gKids.drop (j + 1)) : Nat) : Int) := by omega
          rw [e1]
      · have hc : cnt (d + 1) x.gKids[j] = 401 := by unfold cnt; rw [if_neg (by simpa using hg)]
        rw [hc, wr_i64 (by omega) (by omega), if_pos (by simp; omega), if_neg]
        simp only [Bool.and_eq_true, decide_eq_true_eq, not_and]
        intro h5
        have h6 : ¬ (1 + nT x.gKids[j] ≤ 400) := fun h => hg ⟨h5.1, h⟩
        omega
    · rw [if_neg (by simpa using hlt), List.drop_of_length_le (by omega), gTs, if_pos (by simp only [nsum]; simp; omega)]
      simp [nsum]

theorem sized : ∀ (k : Nat) (x : GTerm), maxLen + 2 * nT x + 2 < k → x.ok → ∀ d : Int, 0 ≤ d → d ≤ 41 → pimpl_sized k x d = some (cnt d x)
  | 0, x, h => by omega
  | k + 1, x, hw => by
    intro hx d h0 h1
    have hn := nT_kids x
    have hnm := nameOk (k := k) (s := x.gName) (ok_name hx) (by omega)
    have hJ : d ≤ 40 → one x = true → pimpl_sized_J1 k (pimpl_sized k) x d = some (cnt d x) := by
      intro hd h1
      unfold pimpl_sized_J1 cnt
      have e := sized_L2 (k := k) (x := x) (d := d) (ok_kids hx).1 (wr_i64 (by omega) (by omega)) (fun y hy => by have := nsum_mem (n := nT) hy; exact sized k y (by omega) ((ok_kids hx).2 y hy) (d + 1) (by omega) (by omega)) k 0 1 (by omega) (by have := (ok_kids hx).1; omega) (by omega) (by omega)
      rw [show ((0 : Nat) : Int) = 0 from rfl, List.drop_zero, ← hn] at e
      rw [e, gT_eq, h1, Bool.true_and, decide_eq_true hd, Bool.true_and]
      have e2 : decide (1 + (nT x : Int) ≤ 400) = decide (1 + nT x ≤ 400) := by rw [decide_eq_decide]; omega
      rw [e2]
      split
      · simp
      · simp
    have hbad : one x = false → (401 : Int) = cnt d x := by
      intro h1; unfold cnt; rw [gT_eq, h1]; simp
    unfold pimpl_sized
    by_cases hd : d > 40
    · rw [if_pos (by simpa using hd)]
      unfold cnt; rw [gT_eq, decide_eq_false (show ¬ d ≤ 40 by omega)]; simp
    have hJ' := hJ (by omega)
    rw [if_neg (by simpa using hd)]
    simp only [hnm, within, Option.bind_some]
    generalize pimpl_sized_J1 k (pimpl_sized k) x d = J at hJ' ⊢
    generalize cnt d x = C at hJ' hbad ⊢
    have hlen : ((x.gKids.length : Int) > 0) ↔ ¬ ((x.gKids.length : Int) = 0) := by omega
    unfold one at hJ' hbad
    by_cases c1 : x.gKind = 1
    · rw [if_pos (by simpa using c1)]
      rw [if_pos c1] at hJ' hbad
      cases h2 : inR x.gNum 0 99999 <;> cases h3 : sEq x.gName (bs []) <;> by_cases h4 : (x.gKids.length : Int) = 0 <;> simp_all
    rw [if_neg (by simpa using c1)]
    rw [if_neg c1] at hJ' hbad
    by_cases c2 : x.gKind = 2
    · rw [if_pos (by simpa using c2)]
      rw [if_pos c2] at hJ' hbad
      cases h2 : decide (nmOk x.gName) <;> by_cases h3 : x.gNum = 0 <;> by_cases h4 : (x.gKids.length : Int) = 0 <;> simp_all
    rw [if_neg (by simpa using c2)]
    rw [if_neg c2] at hJ' hbad
    by_cases c3 : x.gKind = 3
    · rw [if_pos (by simpa using c3)]
      rw [if_pos c3] at hJ' hbad
      cases h2 : inR x.gNum (-999999999) 999999999 <;> cases h3 : sEq x.gName (bs []) <;> by_cases h4 : (x.gKids.length : Int) = 0 <;> simp_all
    rw [if_neg (by simpa using c3)]
    rw [if_neg c3] at hJ' hbad
    by_cases c4 : x.gKind = 4
    · rw [if_pos (by simpa using c4)]
      rw [if_pos c4] at hJ' hbad
      cases h2 : decide (nmOk x.gName) <;> by_cases h3 : x.gNum = 0 <;> cases h4 : inR (x.gKids.length : Int) 1 5 <;> simp_all
    · rw [if_neg (by simpa using c4)]
      rw [if_neg c4] at hbad
      rw [hbad rfl]

theorem impl_TermOk {k : Nat} {x : GTerm} (hw : maxLen + 2 * nT x + 2 < k) (hx : x.ok) : pimpl_TermOk k x = some (tOk x) := by
  unfold pimpl_TermOk tOk
  rw [sized k x hw hx 1 (by omega) (by omega)]
  simp only [Option.bind_some]
  unfold cnt
  cases gT 1 x <;> by_cases h : 1 + nT x ≤ 400 <;> simp [h] <;> omega
theorem l03Has_L1 (k : Nat) {l : List Int} (x : Int) (hl : l.length ≤ maxLen) : ∀ (m j : Nat), j ≤ l.length → l.length - j < m → pspec_l03Has_L1 k l x m (j : Int) = some (if x ∈ l.drop j then .ret true else .done ())
  | 0, j, h1, h2 => by omega
  | m + 1, j, h1, h2 => by
    unfold pspec_l03Has_L1
    by_cases hlt : j < l.length
    · rw [if_pos (by simpa using hlt), at_lt hlt, List.drop_eq_getElem_cons hlt]
      simp only [Option.bind_some]
      by_cases e : l[j] = x
      · rw [if_pos (by simpa using e), if_pos (by simp [e])]
      · rw [if_neg (by simpa using e), wr_succ hlt hl, l03Has_L1 k x hl m (j + 1) (by omega) (by omega)]
        have : (x ∈ l[j] :: l.drop (j + 1)) ↔ x ∈ l.drop (j + 1) := by
          rw [List.mem_cons]; exact ⟨fun h => h.resolve_left (fun h => e h.symm), .inr⟩
        simp only [this]
    · rw [if_neg (by simpa using hlt), List.drop_of_length_le (by omega)]; simp
theorem l03Has {k : Nat} {l : List Int} (x : Int) (hl : l.length ≤ maxLen) (hk : maxLen < k) : pspec_l03Has k l x = some (decide (x ∈ l)) := by
  unfold pspec_l03Has
  have e := l03Has_L1 k x hl k 0 (by omega) (by omega)
  rw [show ((0 : Nat) : Int) = 0 from rfl, List.drop_zero] at e
  rw [e]
  by_cases h : x ∈ l <;> simp [h]
def uniq : List Int → List Int → List Int
  | [], o => o
  | x :: l, o => uniq l (if x ∈ o then o else o ++ [x])
theorem uniq_len : ∀ (l o : List Int), (uniq l o).length ≤ o.length + l.length
  | [], o => by simp [uniq]
  | x :: l, o => by
    have h := uniq_len l (if x ∈ o then o else o ++ [x])
    rw [uniq]
    split at h
    · rename_i c; rw [if_pos c]; simp only [List.length_cons]; omega
    · rename_i c; rw [if_neg c]; simp only [List.length_append, List.length_cons, List.length_nil] at h ⊢; omega
mutual
/-- The numbers of the variables of a term, in order. -/
def vs : GTerm → List Int
  | .mk a _ c l => (if a = 1 then [c] else []) ++ vss l
def vss : List GTerm → List Int
  | [] => []
  | x :: l => vs x ++ vss l
end
theorem vs_eq (x : GTerm) : vs x = (if x.gKind = 1 then [x.gNum] else []) ++ vss x.gKids := by cases x; rw [vs]; rfl
mutual
theorem vs_len : ∀ x : GTerm, (vs x).length ≤ 1 + nT x
  | .mk a b c l => by
    have h := vss_len l
    rw [vs, nT]
    split <;> simp <;> omega
theorem vss_len : ∀ l : List GTerm, (vss l).length ≤ nTs l
  | [] => by simp [vss, nTs]
  | x :: l => by
    have h1 := vs_len x
    have h2 := vss_len l
    rw [vss, nTs]
    simp only [List.length_append]; omega
end
theorem vss_drop {l : List GTerm} {j : Nat} (h : j < l.length) : vss (l.drop j) = vs l[j] ++ vss (l.drop (j + 1)) := by
  rw [List.drop_eq_getElem_cons h, vss]
theorem uniq_app : ∀ (a b o : List Int), uniq (a ++ b) o = uniq b (uniq a o)
  | [], b, o => by simp [uniq]
  | x :: a, b, o => by simp only [List.cons_append, uniq]; exact uniq_app a b _
theorem mem_uniq : ∀ (l o : List Int) (x : Int), x ∈ uniq l o ↔ x ∈ l ∨ x ∈ o
  | [], o, x => by simp [uniq]
  | y :: l, o, x => by
    rw [uniq, mem_uniq l]
    split
    · rename_i c
      constructor
      · rintro (h | h)
        · exact .inl (List.mem_cons_of_mem _ h)
        · exact .inr h
      · rintro (h | h)
        · rcases List.mem_cons.1 h with rfl | h
          · exact .inr c
          · exact .inl h
        · exact .inr h
    · simp only [List.mem_append, List.mem_cons, List.not_mem_nil, or_false]
      constructor
      · rintro (h | h | h)
        · exact .inl (.inr h)
        · exact .inr h
        · exact .inl (.inl h)
      · rintro ((h | h) | h)
        · exact .inr (.inr h)
        · exact .inl h
        · exact .inr (.inl h)

theorem l03Vars_L2 {k : Nat} {x : GTerm} {f : GTerm → List Int → Option (List Int)} (hx : x.gKids.length ≤ 1048576)
    (hf : ∀ y ∈ x.gKids, ∀ s, s.length + 1 + nT y ≤ 8388608 → f y s = some (uniq (vs y) s)) :
    ∀ (m j : Nat) (s : List Int), j ≤ x.gKids.length → x.gKids.length - j < m → s.length + nsum nT (x.gKids.drop j) ≤ 8388608 →
      pspec_l03Vars_L2 k f x m s (j : Int) = some (.done (uniq (vss (x.gKids.drop j)) s))
  | 0, j, s, h1, h2, h3 => by omega
  | m + 1, j, s, h1, h2, h3 => by
    have hm : x.gKids.length ≤ maxLen := by rw [maxLen_eq]; omega
    unfold pspec_l03Vars_L2
    by_cases hlt : j < x.gKids.length
    · rw [ns_drop hlt] at h3
      have hl := uniq_len (vs x.gKids[j]) s
      have hl2 := vs_len x.gKids[j]
      rw [if_pos (by simpa using hlt), at_lt hlt]
      simp only [Option.bind_some]
      rw [hf _ (List.getElem_mem hlt) s (by omega)]
      simp only [Option.bind_some]
      rw [wr_succ hlt hm, l03Vars_L2 hx hf m (j + 1) _ (by omega) (by omega) (by omega), vss_drop hlt, uniq_app]
    · rw [if_neg (by simpa using hlt), List.drop_of_length_le (by omega), vss, uniq]
theorem l03Vars : ∀ (k : Nat) (x : GTerm), maxLen + 2 * nT x + 2 < k → nT x ≤ 1048576 → ∀ s, s.length + 1 + nT x ≤ 8388608 → pspec_l03Vars k x s = some (uniq (vs x) s)
  | 0, x, h => by omega
  | k + 1, x, hw => by
    intro hn s h2
    have hk := nT_kids x
    have hlen := nsum_len nT x.gKids
    have hm : maxLen = 9223372036854775807 := maxLen_eq
    have e : ∀ s : List Int, s.length + nT x ≤ 8388608 → pspec_l03Vars_J1 k (pspec_l03Vars k) x s = some (uniq (vss x.gKids) s) := by
      intro s hs
      have e := l03Vars_L2 (k := k) (f := pspec_l03Vars k) (x := x) (by omega) (fun y hy s g2 => by have := nsum_mem (n := nT) hy; exact l03Vars k y (by omega) (by omega) s g2) k 0 s (by omega) (by omega) (by rw [List.drop_zero]; omega)
      rw [show ((0 : Nat) : Int) = 0 from rfl, List.drop_zero] at e
      unfold pspec_l03Vars_J1
      rw [e]; rfl
    unfold pspec_l03Vars
    rw [vs_eq]
    by_cases c1 : x.gKind = 1
    · rw [if_pos (by simpa using c1), if_pos c1, l03Has _ (by omega) (by omega)]
      simp only [Option.bind_some]
      unfold pspec_l03Vars_J3
      rw [List.singleton_append, uniq]
      by_cases hs : x.gNum ∈ s
      · rw [if_neg (by simp [hs]), if_pos hs, e s (by omega)]
      · rw [if_pos (by simp [hs]), if_neg hs, if_pos (by simp; omega), e _ (by simp; omega)]
    · rw [if_neg (by simpa using c1), if_neg c1]
      unfold pspec_l03Vars_J3
      rw [if_neg (by simp), List.nil_append, e s (by omega)]
theorem renamed_L2 {k : Nat} {f : GTerm → Option GTerm} {x : GTerm} {a c : Int} {b : ByteArray} (hl : x.gKids.length ≤ 1048576) (hf : ∀ y ∈ x.gKids, f y = some y) :
    ∀ (m j : Nat), j ≤ x.gKids.length → x.gKids.length - j < m → pimpl_renamed_on1_pimpl_copyTerm_1_L2 k f x m (j : Int) (.mk a b c (x.gKids.take j)) = some (.done (.mk a b c x.gKids))
  | 0, j, h1, h2 => by omega
  | m + 1, j, h1, h2 => by
    unfold pimpl_renamed_on1_pimpl_copyTerm_1_L2
    have hm : x.gKids.length ≤ maxLen := by rw [maxLen_eq]; omega
    by_cases hlt : j < x.gKids.length
    · rw [if_pos (by simpa using hlt), at_lt hlt]
      simp only [Option.bind_some, hf _ (List.getElem_mem hlt)]
      rw [show (GTerm.mk a b c (x.gKids.take j)).gKids = x.gKids.take j from rfl, show (GTerm.mk a b c (x.gKids.take j)).gKind = a from rfl, show (GTerm.mk a b c (x.gKids.take j)).gName = b from rfl, show (GTerm.mk a b c (x.gKids.take j)).gNum = c from rfl]
      rw [if_pos (by simp; omega), wr_succ hlt hm, ← List.take_succ_eq_append_getElem hlt]
      exact renamed_L2 hl hf m (j + 1) (by omega) (by omega)
    · rw [if_neg (by simpa using hlt), List.take_of_length_le (by omega)]
theorem renamed : ∀ (k : Nat) (x : GTerm), maxLen + 2 * nT x + 2 < k → nT x ≤ 1048576 → pimpl_renamed_on1_pimpl_copyTerm_1 k x = some x
  | 0, x, h => by omega
  | k + 1, x, hw => by
    intro hx
    have hk := nT_kids x
    have := nsum_len nT x.gKids
    have e := renamed_L2 (k := k) (f := pimpl_renamed_on1_pimpl_copyTerm_1 k) (x := x) (a := x.gKind) (b := x.gName) (c := x.gNum) (by omega) (fun y hy => by have := nsum_mem (n := nT) hy; exact renamed k y (by omega) (by omega)) k 0 (by omega) (by omega)
    rw [show ((0 : Nat) : Int) = 0 from rfl, List.take_zero] at e
    have hx : GTerm.mk x.gKind x.gName x.gNum x.gKids = x := by cases x; rfl
    rw [hx] at e
    have e2 : pimpl_renamed_on1_pimpl_copyTerm_1_J1 k (pimpl_renamed_on1_pimpl_copyTerm_1 k) x (GTerm.mk x.gKind x.gName x.gNum []) = some x := by
      unfold pimpl_renamed_on1_pimpl_copyTerm_1_J1; rw [e]; rfl
    unfold pimpl_renamed_on1_pimpl_copyTerm_1
    simp only [pimpl_copyTerm_1, Option.bind_some, e2]
    split <;> rfl
theorem copyTerm {k : Nat} {x : GTerm} (hw : maxLen + 2 * nT x + 2 < k) (hx : nT x ≤ 1048576) : pimpl_copyTerm k x = some x := by
  unfold pimpl_copyTerm; rw [renamed k x hw hx]; rfl
theorem l34Terms_L1 {k : Nat} {f : GTerm → Option GTerm} {g : List GTerm → Option (List GTerm)} {l : List GTerm} (hl : l.length ≤ 1048576) (hf : ∀ x ∈ l, f x = some x) :
    ∀ (m j : Nat), j ≤ l.length → l.length - j < m → pspec_l34Terms_L1 k f g l m (l.take j) (j : Int) = some (.done l)
  | 0, j, h1, h2 => by omega
  | m + 1, j, h1, h2 => by
    unfold pspec_l34Terms_L1
    have hm : l.length ≤ maxLen := by rw [maxLen_eq]; omega
    by_cases hlt : j < l.length
    · rw [if_pos (by simpa using hlt), at_lt hlt]
      simp only [Option.bind_some, hf _ (List.getElem_mem hlt)]
      rw [if_pos (by simp; omega), wr_succ hlt hm, ← List.take_succ_eq_append_getElem hlt]
      exact l34Terms_L1 hl hf m (j + 1) (by omega) (by omega)
    · rw [if_neg (by simpa using hlt), List.take_of_length_le (by omega)]
theorem l34Both : ∀ k : Nat, (∀ l, maxLen + 2 * nsum nT l + 1 < k → nsum nT l ≤ 16777216 → l.length ≤ 1048576 → (∀ x ∈ l, nT x ≤ 1048576) → pspec_l34Terms k l = some l) ∧ (∀ x, maxLen + 2 * nT x + 2 < k → nT x ≤ 1048576 → pspec_l34Term k x = some x)
  | 0 => ⟨fun l h => by omega, fun x h => by omega⟩
  | k + 1 => by
    obtain ⟨ih1, ih2⟩ := l34Both k
    refine ⟨fun l hw hl h3 h4 => ?_, fun x hw hx => ?_⟩
    · have := nsum_len nT l
      unfold pspec_l34Terms
      have e := l34Terms_L1 (k := k) (f := pspec_l34Term k) (g := pspec_l34Terms k) (l := l) (by omega) (fun x hx => by have := nsum_mem (n := nT) hx; exact ih2 x (by omega) (h4 x hx)) k 0 (by omega) (by omega)
      rw [show ((0 : Nat) : Int) = 0 from rfl, List.take_zero] at e
      rw [e]; rfl
    · have hk := nT_kids x
      have := nsum_len nT x.gKids
      unfold pspec_l34Term
      rw [ih1 x.gKids (by omega) (by omega) (by omega) (fun y hy => by have := nsum_mem (n := nT) hy; omega)]
      cases x; rfl
theorem l34Term {k : Nat} {x : GTerm} (hw : maxLen + 2 * nT x + 2 < k) (hx : nT x ≤ 1048576) : pspec_l34Term k x = some x := (l34Both k).2 x hw hx
theorem l34Terms {k : Nat} {l : List GTerm} (hw : maxLen + 2 * nsum nT l + 2 < k) (hx : nsum nT l ≤ 1048576) : pspec_l34Terms k l = some l := by
  have := nsum_len nT l
  exact (l34Both k).1 l (by omega) (by omega) (by omega) (fun x hx => by have := nsum_mem (n := nT) hx; omega)
/-! what is drawn -/
/-- Not by computation: the kernel must not look into the conditions. -/
theorem obs {α β : Type} {a : α} {f : α → Option β} : (some a).bind f = f a := by
  cases h : f a with
  | none => exact h
  | some b => exact h
theorem kk {n k : Nat} (m : Nat) (h : n < k - maxLen) (hm : m ≤ n := by decide) : maxLen + m < k := by
  rw [Nat.add_comm]
  exact Nat.add_lt_of_lt_sub (Nat.lt_of_le_of_lt hm h)
theorem kz {n k : Nat} (h : n < k - maxLen) : maxLen < k := by
  have := kk 0 h (Nat.zero_le _)
  exact this
theorem kle {n k : Nat} (m : Nat) (h : n < k - maxLen) (hm : m ≤ n := by decide) : m < k - maxLen := Nat.lt_of_le_of_lt hm h
theorem band255 (x : Int) : 0 ≤ band .i64 x 255 ∧ band .i64 x 255 ≤ 255 := by
  have h : ∀ b : BitVec 64, (b &&& BitVec.ofInt 64 255).toNat ≤ 255 := by
    intro b
    rw [BitVec.toNat_and]
    exact Nat.and_le_right
  have e : band .i64 x 255 = IntKind.wrap .i64 ((BitVec.ofInt 64 x &&& BitVec.ofInt 64 255).toNat) := rfl
  have h1 := h (BitVec.ofInt 64 x)
  generalize (BitVec.ofInt 64 x &&& BitVec.ofInt 64 255).toNat = n at e h1
  have e2 : wr.i64 (n : Int) = n := wr_i64 (by omega) (by omega)
  rw [e, show IntKind.wrap .i64 (n : Int) = wr.i64 (n : Int) from rfl, e2]
  omega

theorem at_int {α : Type} {l : List α} {v : Int} (h1 : 0 ≤ v) (h2 : v < (l.length : Int)) : ∃ (h : v.toNat < l.length), at' l v = some l[v.toNat] := by
  obtain ⟨n, rfl⟩ := Int.eq_ofNat_of_zero_le h1
  exact ⟨by omega, at_lt (by omega)⟩
/-- A cursor is right. -/
def CurOk (c : GL01Cur) : Prop := c.gB.length ≤ 1048576 ∧ 0 ≤ c.gI ∧ c.gI ≤ (c.gB.length : Int)

theorem l01New_L1 (k : Nat) (a : List Int) (hl : a.length ≤ 1048576) : ∀ (m j : Nat) (h : Int), j ≤ a.length → a.length - j < m → ∃ r, pspec_l01New_L1 k a m h (j : Int) = some (.done r)
  | 0, j, h, h1, h2 => by omega
  | m + 1, j, h, h1, h2 => by
    rw [pspec_l01New_L1]
    have hM := maxLen_eq
    by_cases c : j < a.length
    · rw [if_pos (by simpa using c)]
      split
      · rw [at_lt c, wr_succ c (by omega)]
        exact l01New_L1 k a hl m (j + 1) _ (by omega) (by omega)
      · exact ⟨_, rfl⟩
    · rw [if_neg (by simpa using c)]
      exact ⟨_, rfl⟩
theorem l01New {k : Nat} {a : List Int} (hl : a.length ≤ 1048576) (hk : maxLen < k) : ∃ c, pspec_l01New k a = some c ∧ CurOk c := by
  unfold pspec_l01New
  have hM := maxLen_eq
  obtain ⟨r, e⟩ := l01New_L1 k a hl k 0 (wr.i64 (95101 + (a.length : Int))) (by omega) (by omega)
  rw [show ((0 : Nat) : Int) = 0 from rfl] at e
  rw [e]
  exact ⟨_, rfl, hl, by simp, by simp⟩
theorem l01Byte {c : GL01Cur} (h : CurOk c) (k : Nat) : ∃ c' v, pspec_l01Byte k c = some (c', v) ∧ CurOk c' ∧ 0 ≤ v ∧ v ≤ 255 := by
  unfold pspec_l01Byte
  obtain ⟨h1, h2, h3⟩ := h
  by_cases g : c.gI < (c.gB.length : Int)
  · rw [if_pos (by simpa using g)]
    obtain ⟨hn, e⟩ := at_int h2 g
    rw [e]
    refine ⟨_, _, rfl, ⟨h1, ?_, ?_⟩, (band255 _).1, (band255 _).2⟩
    · simp only; rw [wr_i64 (by omega) (by omega)]; omega
    · simp only; rw [wr_i64 (by omega) (by omega)]; omega
  · rw [if_neg (by simpa using g)]
    exact ⟨_, _, rfl, ⟨h1, h2, h3⟩, (band255 _).1, (band255 _).2⟩
theorem l01Below {c : GL01Cur} (h : CurOk c) (k : Nat) (n : Int) : ∃ c' v, pspec_l01Below k c n = some (c', v) ∧ CurOk c' ∧ 0 ≤ v ∧ (0 < n → v < n) ∧ (n ≤ 0 → v = 0) := by
  unfold pspec_l01Below
  by_cases g : n ≤ 0
  · rw [if_pos (by simpa using g)]
    exact ⟨_, _, rfl, h, by omega, by omega, fun _ => rfl⟩
  rw [if_neg (by simpa using g)]
  split
  · obtain ⟨c', v, e, h1, h2, h3⟩ := l01Byte h k
    rw [e]
    simp only [Option.bind_some]
    rw [if_pos (by omega)]
    exact ⟨_, _, rfl, h1, Int.tmod_nonneg _ h2, fun _ => Int.tmod_lt_of_pos _ (by omega), by omega⟩
  · obtain ⟨c1, v1, e1, h1, l1, u1⟩ := l01Byte h k
    obtain ⟨c2, v2, e2, h2, l2, u2⟩ := l01Byte h1 k
    obtain ⟨c3, v3, e3, h3, l3, u3⟩ := l01Byte h2 k
    obtain ⟨c4, v4, e4, h4, l4, u4⟩ := l01Byte h3 k
    simp only [e1, e2, e3, e4, Option.bind_some]
    rw [if_pos (by omega)]
    have w1 : wr.i64 (v1 * 16777216) = v1 * 16777216 := wr_i64 (by omega) (by omega)
    have w2 : wr.i64 (v2 * 65536) = v2 * 65536 := wr_i64 (by omega) (by omega)
    have w3 : wr.i64 (v3 * 256) = v3 * 256 := wr_i64 (by omega) (by omega)
    rw [w1, w2, w3, wr_i64 (x := v1 * 16777216 + v2 * 65536) (by omega) (by omega), wr_i64 (x := v1 * 16777216 + v2 * 65536 + v3 * 256) (by omega) (by omega), wr_i64 (by omega) (by omega)]
    exact ⟨_, _, rfl, h4, Int.tmod_nonneg _ (by omega), fun _ => Int.tmod_lt_of_pos _ (by omega), by omega⟩
theorem at_mem {α : Type} {l : List α} {v : Int} (h1 : 0 ≤ v) (h2 : v < (l.length : Int)) : ∃ x, at' l v = some x ∧ x ∈ l := by
  obtain ⟨hn, e⟩ := at_int h1 h2
  exact ⟨_, e, List.getElem_mem hn⟩
theorem l01Pick {c : GL01Cur} (h : CurOk c) (k : Nat) {l : List ByteArray} (hl : 0 < l.length) : ∃ c' s, pspec_l01Pick k c l = some (c', s) ∧ CurOk c' ∧ s ∈ l := by
  unfold pspec_l01Pick
  obtain ⟨c', v, e, h1, h2, h3, h4⟩ := l01Below h k (l.length : Int)
  obtain ⟨s, e2, h5⟩ := at_mem h2 (h3 (by omega))
  simp only [e, e2, Option.bind_some]
  exact ⟨_, _, rfl, h1, h5⟩
theorem l01PickInt {c : GL01Cur} (h : CurOk c) (k : Nat) {l : List Int} (hl : 0 < l.length) : ∃ c' s, pspec_l01PickInt k c l = some (c', s) ∧ CurOk c' ∧ s ∈ l := by
  unfold pspec_l01PickInt
  obtain ⟨c', v, e, h1, h2, h3, h4⟩ := l01Below h k (l.length : Int)
  obtain ⟨s, e2, h5⟩ := at_mem h2 (h3 (by omega))
  simp only [e, e2, Option.bind_some]
  exact ⟨_, _, rfl, h1, h5⟩
theorem ok_mk {a : Int} {b : ByteArray} {c : Int} {l : List GTerm} (h1 : -9223372036854775808 ≤ a ∧ a ≤ 9223372036854775807) (h2 : b.size ≤ 9223372036854775807) (h3 : -9223372036854775808 ≤ c ∧ c ≤ 9223372036854775807) (h4 : l.length ≤ 9223372036854775807) (h5 : ∀ x ∈ l, x.ok) : (GTerm.mk a b c l).ok := by
  have e1 : IntKind.i64.min = -9223372036854775808 := rfl
  have e2 : IntKind.i64.max = 9223372036854775807 := rfl
  have hM := maxLen_eq
  exact .mk _ _ _ _ (by unfold okI; omega) (by unfold okFs; omega) (by unfold okI; omega) (by omega) h5
/-- The head of a right term. -/
theorem one_ok {x : GTerm} (h : one x = true) : (1 ≤ x.gKind ∧ x.gKind ≤ 4) ∧ x.gName.size ≤ 20 ∧ (-999999999 ≤ x.gNum ∧ x.gNum ≤ 999999999) ∧ x.gKids.length ≤ 5 := by
  have hin : ∀ {x a b : Int}, inR x a b = true → a ≤ x ∧ x ≤ b := fun h => of_decide_eq_true h
  have hz : ∀ {s : ByteArray}, sEq s (bs []) = true → s.size ≤ 20 := fun h => by rw [sEq_iff.1 h]; decide
  unfold one at h
  split at h
  · simp only [Bool.and_eq_true, beq_iff_eq] at h
    have := hin h.1; have := hz h.2.1; omega
  split at h
  · simp only [Bool.and_eq_true, beq_iff_eq, decide_eq_true_eq] at h
    have := h.1.2.2; omega
  split at h
  · simp only [Bool.and_eq_true, beq_iff_eq] at h
    have := hin h.1; have := hz h.2.1; omega
  split at h
  · simp only [Bool.and_eq_true, beq_iff_eq, decide_eq_true_eq] at h
    have := h.1.2.2; have := hin h.2.2; omega
  · cases h
mutual
theorem gT_ok : ∀ (x : GTerm) (d : Int), gT d x = true → x.ok
  | .mk a b c l, d, h => by
    rw [gT_eq] at h
    simp only [Bool.and_eq_true] at h
    have := one_ok h.2.1
    simp only [mk_gKind, mk_gName, mk_gNum, mk_gKids] at this
    exact ok_mk (by omega) (by omega) (by omega) (by omega) (gTs_ok l (d + 1) h.2.2)
theorem gTs_ok : ∀ (l : List GTerm) (d : Int), gTs d l = true → ∀ x ∈ l, x.ok
  | [], d, h => fun x hx => by cases hx
  | x :: l, d, h => fun y hy => by
    rw [gTs, Bool.and_eq_true] at h
    cases hy with
    | head => exact gT_ok x d h.1
    | tail _ hy => exact gTs_ok l d h.2 y hy
end
theorem tOk_ok {x : GTerm} (h : tOk x = true) : x.ok ∧ nT x ≤ 399 := by
  unfold tOk at h
  simp only [Bool.and_eq_true, decide_eq_true_eq] at h
  exact ⟨gT_ok x 1 h.2, by omega⟩
theorem gTs_all {d : Int} : ∀ {l : List GTerm}, (∀ y ∈ l, gT d y = true) → gTs d l = true
  | [], _ => by rw [gTs]
  | x :: l, h => by rw [gTs, h x (List.mem_cons_self ..), gTs_all (fun y hy => h y (List.mem_cons_of_mem _ hy))]; rfl

theorem one_var {n : Int} (h : 0 ≤ n ∧ n ≤ 99999) : one (.mk 1 (bs []) n []) = true := by
  unfold one
  rw [mk_gKind, mk_gName, mk_gNum, mk_gKids, if_pos rfl, inR_t h, sEq_refl]; rfl
theorem one_atom {s : ByteArray} (h : nmOk s) : one (.mk 2 s 0 []) = true := by
  unfold one
  rw [mk_gKind, mk_gName, mk_gNum, mk_gKids, if_neg (by decide), if_pos rfl, decide_eq_true h]; rfl
theorem one_int {n : Int} (h : -999999999 ≤ n ∧ n ≤ 999999999) : one (.mk 3 (bs []) n []) = true := by
  unfold one
  rw [mk_gKind, mk_gName, mk_gNum, mk_gKids, if_neg (by decide), if_neg (by decide), if_pos rfl, inR_t h, sEq_refl]; rfl
theorem one_struct {s : ByteArray} {l : List GTerm} (h : nmOk s) (h1 : 1 ≤ l.length) (h2 : l.length ≤ 5) : one (.mk 4 s 0 l) = true := by
  unfold one
  rw [mk_gKind, mk_gName, mk_gNum, mk_gKids, if_neg (by decide), if_neg (by decide), if_neg (by decide), if_pos rfl, decide_eq_true h, inR_t (by omega)]; rfl
/-- The variables are low. -/
def Low (x : GTerm) : Prop := ∀ v ∈ vs x, 0 ≤ v ∧ v ≤ 3
theorem vss_mem : ∀ {l : List GTerm} {v : Int}, v ∈ vss l ↔ ∃ y ∈ l, v ∈ vs y
  | [], v => by simp [vss]
  | x :: l, v => by
    rw [vss, List.mem_append, vss_mem]
    constructor
    · rintro (h | ⟨y, h1, h2⟩)
      · exact ⟨x, List.mem_cons_self .., h⟩
      · exact ⟨y, List.mem_cons_of_mem _ h1, h2⟩
    · rintro ⟨y, h1, h2⟩
      rcases List.mem_cons.1 h1 with rfl | h1
      · exact .inl h2
      · exact .inr ⟨y, h1, h2⟩
theorem vs_mem {x : GTerm} {v : Int} : v ∈ vs x ↔ (x.gKind = 1 ∧ v = x.gNum) ∨ ∃ y ∈ x.gKids, v ∈ vs y := by
  rw [vs_eq, List.mem_append, vss_mem]
  constructor
  · rintro (h | h)
    · by_cases c : x.gKind = 1
      · rw [if_pos c] at h; exact .inl ⟨c, List.mem_singleton.1 h⟩
      · rw [if_neg c] at h; cases h
    · exact .inr h
  · rintro (⟨h1, h2⟩ | h)
    · rw [if_pos h1]; exact .inl (List.mem_singleton.2 h2)
    · exact .inr h
theorem Low.kid {x y : GTerm} (h : Low x) (hy : y ∈ x.gKids) : Low y := fun v hv => h v (vs_mem.2 (.inr ⟨y, hy, hv⟩))
def MadeT (d : Nat) (x : GTerm) : Prop := (∀ e : Int, e + (d : Int) ≤ 40 → gT e x = true) ∧ nT x + 1 ≤ 4 ^ d ∧ Low x
theorem MadeT.leaf {x : GTerm} (d : Nat) (h1 : one x = true) (h2 : x.gKids = []) (h3 : x.gKind = 1 → 0 ≤ x.gNum ∧ x.gNum ≤ 3) : MadeT d x := by
  refine ⟨fun e he => ?_, ?_, fun v hv => ?_⟩
  · rw [gT_eq, h1, h2, gTs, decide_eq_true (by omega)]; rfl
  · rw [nT_kids, h2]; exact Nat.one_le_pow _ _ (by omega)
  · rcases vs_mem.1 hv with ⟨c, rfl⟩ | ⟨y, hy, _⟩
    · exact h3 c
    · rw [h2] at hy; cases hy
theorem MadeT.node {d : Nat} {b : ByteArray} {l : List GTerm} (h1 : nmOk b) (h2 : 1 ≤ l.length) (h3 : l.length ≤ 3) (h4 : ∀ y ∈ l, MadeT d y) : MadeT (d + 1) (.mk 4 b 0 l) := by
  refine ⟨fun e he => ?_, ?_, fun v hv => ?_⟩
  · rw [gT_eq, mk_gKids, gTs_all (fun y hy => (h4 y hy).1 (e + 1) (by omega)), decide_eq_true (by omega), one_struct h1 h2 (by omega)]
    rfl
  · rw [nT_kids, mk_gKids]
    have : ∀ m : List GTerm, (∀ y ∈ m, MadeT d y) → nsum nT m ≤ m.length * 4 ^ d := by
      intro m
      induction m with
      | nil => intro _; exact Nat.zero_le _
      | cons x m ih =>
        intro hm
        have a := (hm x (List.mem_cons_self ..)).2.1
        have b := ih (fun y hy => hm y (List.mem_cons_of_mem _ hy))
        rw [nsum, List.length_cons, Nat.succ_mul]
        omega
    have a := this l h4
    have b : l.length * 4 ^ d ≤ 3 * 4 ^ d := Nat.mul_le_mul_right _ h3
    have c : 1 ≤ 4 ^ d := Nat.one_le_pow _ _ (by omega)
    rw [Nat.pow_succ]
    omega
  · rcases vs_mem.1 hv with ⟨c, _⟩ | ⟨y, hy, hv⟩
    · rw [mk_gKind] at c; omega
    · exact (h4 y hy).2.2 v hv
theorem MadeT.up {d : Nat} {x : GTerm} (h : MadeT d x) (e : Nat) (he : d ≤ e) : MadeT e x :=
  ⟨fun f hf => h.1 f (by omega), Nat.le_trans h.2.1 (Nat.pow_le_pow_right (by omega) he), h.2.2⟩
theorem MadeT.right {x : GTerm} (h : MadeT 3 x) : tOk x = true := by
  have := h.2.1
  unfold tOk
  rw [h.1 1 (by omega), decide_eq_true (by omega)]
  rfl
theorem names_ok {s : ByteArray} (h : s ∈ [(bs [97]), (bs [98]), (bs [91, 93]), (bs [43]), (bs [66, 105, 103]), bs [120], (bs [58, 45]), (bs [61, 46, 46]), (bs [61]), (bs [44]), (bs [102]), (bs [59]), (bs [103]), (bs [45]), bs [46], bs [115]]) : nmOk s := by
  have : ∀ s ∈ [(bs [97]), (bs [98]), (bs [91, 93]), (bs [43]), (bs [66, 105, 103]), bs [120], (bs [58, 45]), (bs [61, 46, 46]), (bs [61]), (bs [44]), (bs [102]), (bs [59]), (bs [103]), (bs [45]), bs [46], bs [115]], nmOk s := by decide +kernel
  exact this s h
theorem atom_made {s : ByteArray} (h : nmOk s) (d : Nat) : MadeT d (.mk 2 s 0 []) :=
  MadeT.leaf d (one_atom h) rfl (fun h => by rw [mk_gKind] at h; omega)

theorem l03Made_L2 {k d : Nat} {F : GL01Cur → Int → Option (GL01Cur × GTerm)} (hd : wr.i64 (((d + 1 : Nat) : Int) - 1) = (d : Int))
    (hF : ∀ c, CurOk c → ∃ c' t, F c (d : Int) = some (c', t) ∧ CurOk c' ∧ MadeT d t) {s : ByteArray} :
    ∀ (m j : Nat) (l : List GTerm) (c : GL01Cur), 4 - j < m → j ≤ 3 → CurOk c → l.length = j → (∀ y ∈ l, MadeT d y) →
      ∃ t c', pspec_l03Made_L2 k F ((d + 1 : Nat) : Int) m (j : Int) (.mk 4 s 0 l) c = some (.done (t, c')) ∧ CurOk c' ∧ ∃ l', t = .mk 4 s 0 l' ∧ l'.length ≤ 3 ∧ (1 ≤ j ∨ 1 ≤ l'.length) ∧ j ≤ l'.length ∧ ∀ y ∈ l', MadeT d y
  | 0, j, l, c, h1, h2, h3, h4, h5 => by omega
  | m + 1, j, l, c, h1, h2, h3, h4, h5 => by
    rw [pspec_l03Made_L2]
    obtain ⟨c', v, e, g1, g2, g3, _⟩ := l01Below h3 k 3
    have g3 := g3 (by decide)
    simp only [e, Option.bind_some]
    rw [wr_i64 (x := 1 + v) (by omega) (by omega)]
    by_cases q : (j : Int) < 1 + v
    · rw [if_pos (by simpa using q), mk_gKids, if_pos (by rw [decide_eq_true_eq]; omega), hd]
      obtain ⟨c2, t, e2, g4, g5⟩ := hF c' g1
      simp only [e2, Option.bind_some, mk_gKind, mk_gName, mk_gNum]
      rw [if_pos (by simp; omega), wr_i64 (by omega) (by omega), show ((j : Int) + 1) = ((j + 1 : Nat) : Int) by omega]
      obtain ⟨t', c3, e3, g6, l', rfl, g7, g8, g9, g10⟩ := l03Made_L2 (k := k) hd hF (s := s) m (j + 1) (l ++ [t]) c2 (by omega) (by omega) g4 (by simp; omega) (by
        intro y hy
        rcases List.mem_append.1 hy with hy | hy
        · exact h5 y hy
        · rw [List.mem_singleton.1 hy]; exact g5)
      exact ⟨_, c3, e3, g6, l', rfl, g7, .inr (by omega), by omega, g10⟩
    · rw [if_neg (by simpa using q)]
      exact ⟨_, _, rfl, g1, l, rfl, by omega, .inl (by omega), by omega, h5⟩

theorem l03Made : ∀ (d k : Nat), d ≤ 3 → d + 8 ≤ k → ∀ c, CurOk c → ∃ c' t, pspec_l03Made k c (d : Int) = some (c', t) ∧ CurOk c' ∧ MadeT d t
  | _, 0, _, h2, _, _ => by omega
  | d, k + 1, h1, h2, c, h => by
    rw [pspec_l03Made]
    obtain ⟨c1, v, e, g1, g2, g3, _⟩ := l01Below h k 10
    have g3 := g3 (by decide)
    simp only [e, Option.bind_some]
    have leaf : ∀ u : Int, 0 ≤ u → u < 6 → ∃ c' t, pspec_l03Made_J1 k (pspec_l03Made k) (c1, v) (d : Int) u = some (c', t) ∧ CurOk c' ∧ MadeT d t := by
      intro u u1 u2
      unfold pspec_l03Made_J1
      split
      · obtain ⟨c2, w, e2, g4, g5, g6, _⟩ := l01Below g1 k 4
        have g6 := g6 (by decide)
        simp only [e2, Option.bind_some, pspec_l03Var]
        refine ⟨_, _, rfl, g4, MadeT.leaf d (one_var (by omega)) rfl (fun _ => by rw [mk_gNum]; omega)⟩
      split
      · rw [if_pos (by decide)]
        obtain ⟨c2, s, e2, g4, g5⟩ := l01Pick g1 k (l := [(bs [97]), (bs [98]), (bs [91, 93]), (bs [43]), (bs [66, 105, 103]), (bs [120, 32, 121]).extract ((0 : Int) : Int).toNat (1 : Int).toNat, (bs [58, 45]), (bs [61, 46, 46])]) (by decide)
        simp only [e2, Option.bind_some, pspec_l03Atom]
        refine ⟨_, _, rfl, g4, atom_made (names_ok ?_) d⟩
        have hx : (bs [120, 32, 121]).extract ((0 : Int) : Int).toNat (1 : Int).toNat = bs [120] := by decide
        rw [hx] at g5
        simp only [List.mem_cons, List.not_mem_nil, or_false] at g5 ⊢
        rcases g5 with h | h | h | h | h | h | h | h <;> simp [h]
      · rw [if_pos (by rw [decide_eq_true_eq]; exact u2)]
        obtain ⟨c2, s, e2, g4, g5⟩ := l01PickInt g1 k (l := [0, 1, -7, 999999999]) (by decide)
        simp only [e2, Option.bind_some, pspec_l03Num]
        refine ⟨_, _, rfl, g4, MadeT.leaf d (one_int (by
          simp only [List.mem_cons, List.not_mem_nil, or_false] at g5
          omega)) rfl (fun h => by rw [mk_gKind] at h; omega)⟩
    cases d with
    | zero =>
      rw [if_pos (by decide), if_pos (by decide)]
      have := Int.tmod_nonneg 6 g2
      have := Int.tmod_lt_of_pos v (b := 6) (by decide)
      exact leaf _ (by omega) (by omega)
    | succ d =>
      rw [if_neg (by rw [decide_eq_true_eq]; omega)]
      have hd : wr.i64 (((d + 1 : Nat) : Int) - 1) = (d : Int) := by rw [wr_i64 (by omega) (by omega)]; omega
      have hF := l03Made d k (by omega) (by omega)
      by_cases u : v < 6
      · exact leaf v g2 u
      unfold pspec_l03Made_J1
      rw [if_neg (by rw [decide_eq_true_eq]; omega), if_neg (by rw [decide_eq_true_eq]; omega), if_neg (by rw [decide_eq_true_eq]; omega)]
      have two : ∀ (s : ByteArray) (x y : GTerm), nmOk s → MadeT d x → MadeT d y → MadeT (d + 1) (.mk 4 s 0 [x, y]) := fun s x y h1 h2 h3 =>
        MadeT.node h1 (by simp) (by simp) (by
          intro z hz
          simp only [List.mem_cons, List.not_mem_nil, or_false] at hz
          rcases hz with rfl | rfl
          · exact h2
          · exact h3)
      split
      · rw [hd]
        obtain ⟨c2, x, e2, g4, g5⟩ := hF c1 g1
        obtain ⟨c3, y, e3, g6, g7⟩ := hF c2 g4
        simp only [e2, e3, Option.bind_some, pspec_l03Two]
        exact ⟨_, _, rfl, g6, two _ _ _ (names_ok (by simp)) g5 g7⟩
      split
      · obtain ⟨c1', s, e1, g1', gs⟩ := l01Pick g1 k (l := [(bs [43]), (bs [61]), (bs [44]), (bs [102]), (bs [59])]) (by decide)
        rw [hd]
        obtain ⟨c2, x, e2, g4, g5⟩ := hF c1' g1'
        obtain ⟨c3, y, e3, g6, g7⟩ := hF c2 g4
        simp only [e1, e2, e3, Option.bind_some, pspec_l03Two]
        refine ⟨_, _, rfl, g6, two _ _ _ (names_ok ?_) g5 g7⟩
        simp only [List.mem_cons, List.not_mem_nil, or_false] at gs ⊢
        rcases gs with h | h | h | h | h <;> simp [h]
      · obtain ⟨c1', s, e1, g1', gs⟩ := l01Pick g1 k (l := [(bs [102]), (bs [103]), (bs [45]), (bs [91, 93])]) (by decide)
        simp only [e1, Option.bind_some]
        obtain ⟨t, c', e2, g4, l', rfl, g5, g6, g7, g8⟩ := l03Made_L2 (k := k) hd hF (s := s) k 0 [] c1' (by omega) (by omega) g1' rfl (fun y hy => by cases hy)
        rw [show ((0 : Nat) : Int) = 0 from rfl] at e2
        rw [e2]
        refine ⟨_, _, rfl, g4, MadeT.node (names_ok ?_) (by omega) g5 g8⟩
        simp only [List.mem_cons, List.not_mem_nil, or_false] at gs ⊢
        rcases gs with h | h | h | h <;> simp [h]
theorem l03Term {c : GL01Cur} (h : CurOk c) {k : Nat} (hk : 1000000 < k - maxLen) : ∃ c' t, pspec_l03Term k c = some (c', t) ∧ CurOk c' ∧ MadeT 3 t := by
  unfold pspec_l03Term
  obtain ⟨c', t, e, h1, h2⟩ := l03Made 3 k (by omega) (by omega) c h
  have h3 := h2.2.1
  rw [show ((3 : Nat) : Int) = 3 from rfl] at e
  simp only [e, Option.bind_some]
  rw [spec_TermOk (by omega) (gT_ok t 1 (h2.1 1 (by omega))), h2.right]
  exact ⟨_, _, rfl, h1, h2⟩
/-- A term that may be wrong, but not large. -/
def AnyT (x : GTerm) : Prop := x.ok ∧ nT x ≤ 110
theorem MadeT.any {x : GTerm} (h : MadeT 3 x) : AnyT x := ⟨gT_ok x 1 (h.1 1 (by omega)), by have := h.2.1; omega⟩
theorem l03Any_L1 {k : Nat} {g : GL01Cur × Int} (h1 : 0 ≤ g.2) : ∀ (m j : Nat) (x : GTerm), 42 - j < m → j ≤ 41 → x.ok → nT x ≤ 63 + j → ∃ y, pspec_l03Any_L1 k g m (j : Int) x = some (.done y) ∧ AnyT y
  | 0, j, x, a1, a2, a3, a4 => by omega
  | m + 1, j, x, a1, a2, a3, a4 => by
    rw [pspec_l03Any_L1, if_pos (by decide)]
    have g1 := Int.tmod_nonneg 4 h1
    have g2 := Int.tmod_lt_of_pos g.2 (b := 4) (by decide)
    rw [wr_i64 (x := 38 + Int.tmod g.2 4) (by omega) (by omega)]
    by_cases q : (j : Int) < 38 + Int.tmod g.2 4
    · rw [if_pos (by simpa using q), wr_i64 (by omega) (by omega), show ((j : Int) + 1) = ((j + 1 : Nat) : Int) by omega]
      refine l03Any_L1 h1 m (j + 1) _ (by omega) (by omega) (ok_mk (by omega) (by decide) (by omega) (by simp) ?_) ?_
      · intro y hy; rw [List.mem_singleton.1 hy]; exact a3
      · rw [nT, nTs, nTs]; omega
    · rw [if_neg (by simpa using q)]
      exact ⟨_, rfl, a3, by omega⟩
theorem l03Any {c : GL01Cur} (h : CurOk c) {k : Nat} (hk : 1000000 < k - maxLen) : ∃ c' t, pspec_l03Any k c = some (c', t) ∧ CurOk c' ∧ AnyT t := by
  unfold pspec_l03Any
  obtain ⟨c1, v, e1, h1, l1, u1, _⟩ := l01Below h k 12
  obtain ⟨c2, w, e2, h2, l2, u2, _⟩ := l01Below h1 k 60
  obtain ⟨c3, t, e3, h3, h4⟩ := l03Made 3 k (by omega) (by omega) c2 h2
  rw [show ((3 : Nat) : Int) = 3 from rfl] at e3
  simp only [e1, e2, e3, Option.bind_some]
  have ok := gT_ok t 1 (h4.1 1 (by omega))
  have hn := h4.2.1
  obtain ⟨o1, o2, o3, o4, o5⟩ : okI .i64 t.gKind ∧ okFs t.gName ∧ okI .i64 t.gNum ∧ t.gKids.length ≤ maxLen ∧ ∀ y ∈ t.gKids, y.ok := by
    clear hn h4
    cases ok with | mk a b c l h1 h2 h3 h4 h5 => exact ⟨h1, h2, h3, h4, h5⟩
  have kk : ∀ q : Int, 0 ≤ q → q ≤ 1000000000 → okI .i64 q := fun q a b => by
    have e1 : IntKind.i64.min = -9223372036854775808 := rfl
    have e2 : IntKind.i64.max = 9223372036854775807 := rfl
    unfold okI; omega
  have nk : ∀ a b c, nT (.mk a b c t.gKids) = nT t := fun a b c => by rw [nT_kids, mk_gKids, ← nT_kids]
  split
  · rw [if_pos (by decide)]
    have := Int.tmod_nonneg 6 l2
    have := Int.tmod_lt_of_pos w (b := 6) (by decide)
    exact ⟨_, _, rfl, h3, .mk _ _ _ _ (kk _ (by omega) (by omega)) o2 o3 o4 o5, by rw [nk]; omega⟩
  split
  · rw [if_pos (by decide)]
    have g1 := Int.tmod_nonneg 4 l2
    have g2 := Int.tmod_lt_of_pos w (b := 4) (by decide)
    obtain ⟨s, e4, hs⟩ := at_mem (l := [(bs []), (bs [97, 32, 98]), (bs [39]), (bs [97, 97, 97, 97, 97, 97, 97, 97, 97, 97, 97, 97, 97, 97, 97, 97, 97, 97, 97, 97, 97])]) g1 (by simpa using g2)
    simp only [e4, Option.bind_some]
    refine ⟨_, _, rfl, h3, .mk _ _ _ _ o1 ?_ o3 o4 o5, by rw [nk]; omega⟩
    have : ∀ s ∈ [(bs []), (bs [97, 32, 98]), (bs [39]), (bs [97, 97, 97, 97, 97, 97, 97, 97, 97, 97, 97, 97, 97, 97, 97, 97, 97, 97, 97, 97, 97])], s.size ≤ 100 := by decide
    have := this s hs
    have hM := maxLen_eq
    unfold okFs; omega
  split
  · rw [if_pos (by decide)]
    have g1 := Int.tmod_nonneg 3 l2
    have g2 := Int.tmod_lt_of_pos w (b := 3) (by decide)
    obtain ⟨s, e4, hs⟩ := at_mem (l := [-1, 100000, 1000000000]) g1 (by simpa using g2)
    simp only [e4, Option.bind_some]
    refine ⟨_, _, rfl, h3, .mk _ _ _ _ o1 o2 ?_ o4 o5, by rw [nk]; omega⟩
    simp only [List.mem_cons, List.not_mem_nil, or_false] at hs
    have e1 : IntKind.i64.min = -9223372036854775808 := rfl
    have e2 : IntKind.i64.max = 9223372036854775807 := rfl
    unfold okI; omega
  split
  · obtain ⟨y, e4, hy⟩ := l03Any_L1 (k := k) (g := (c2, w)) l2 k 0 t (by omega) (by omega) ok (by omega)
    rw [show ((0 : Nat) : Int) = 0 from rfl] at e4
    rw [e4]
    exact ⟨_, _, rfl, h3, hy⟩
  · exact ⟨_, _, rfl, h3, ok, by omega⟩
theorem sameTerm : ∀ (k : Nat) (x : GTerm), maxLen + 2 * nT x + 2 < k → nT x ≤ Huge → pspec_SameTerm k x x = some true
  | 0, x, hw, h => by omega
  | k + 1, x, hw, h => by
    have hk := nT_kids x
    have := nsum_len nT x.gKids
    unfold pspec_SameTerm
    have e := eq2 (f := pspec_SameTerm k) (L := pspec_SameTerm_L1 k (pspec_SameTerm k) x x) (l := x.gKids) (by omega) (fun y hy => by have := nsum_mem (n := nT) hy; exact sameTerm k y (by omega) (by omega)) (fun m i => rfl) (k := k) (by omega)
    rw [if_neg (by simp), if_neg (by simp [sEq_refl]), if_neg (by simp)]
    exact e
theorem any_kid {x y : GTerm} (h : AnyT x) (hy : y ∈ x.gKids) : AnyT y := by
  obtain ⟨h1, h2⟩ := h
  have h3 := nT_kids x
  have h4 := nsum_mem (n := nT) hy
  refine ⟨?_, by omega⟩
  clear h2 h3 h4
  cases h1 with
  | mk a b c l h1 h2 h3 h4 h5 => exact h5 y hy
/-- A term that is none too large. -/
def BigT (x : GTerm) : Prop := x.ok ∧ nT x ≤ 400
theorem AnyT.big {x : GTerm} (h : AnyT x) : BigT x := ⟨h.1, by have := h.2; omega⟩
theorem big_kid {x y : GTerm} (h : BigT x) (hy : y ∈ x.gKids) : BigT y := by
  obtain ⟨h1, h2⟩ := h
  have h3 := nT_kids x
  have h4 := nsum_mem (n := nT) hy
  refine ⟨?_, by omega⟩
  clear h2 h3 h4
  cases h1 with
  | mk a b c l h1 h2 h3 h4 h5 => exact h5 y hy
theorem big_kids {x : GTerm} (h : BigT x) : x.gKids.length ≤ 400 := by
  have h2 := h.2
  have h3 := nT_kids x
  have h4 := nsum_len nT x.gKids
  omega
def AllB (l : List GTerm) : Prop := ∀ z ∈ l, BigT z
theorem AllB.set {l : List GTerm} (h : AllB l) (i : Nat) {x : GTerm} (hx : BigT x) : AllB (l.set i x) := fun z hz => by
  rcases List.mem_or_eq_of_mem_set hz with h1 | rfl
  · exact h z h1
  · exact hx
/-- What a variable is followed to. -/
def wk : Nat → List GTerm → GTerm → GTerm
  | 0, _, x => x
  | n + 1, l, x => if x.gKind = 1 ∧ 0 ≤ x.gNum ∧ x.gNum < (l.length : Int) then (match l[x.gNum.toNat]? with
    | some y => if y.gKind = 0 then x else wk n l y
    | none => x) else x
theorem wk_in {Q : GTerm → Prop} {l : List GTerm} (hl : ∀ z ∈ l, Q z) : ∀ (n : Nat) (x : GTerm), Q x → Q (wk n l x)
  | 0, x, hx => hx
  | n + 1, x, hx => by
    rw [wk]
    split
    · split
      · rename_i y hy
        split
        · exact hx
        · exact wk_in hl n y (hl y (List.mem_of_getElem? hy))
      · exact hx
    · exact hx
theorem wk_not {n : Nat} {l : List GTerm} {x : GTerm} (h : x.gKind ≠ 1) : wk n l x = x := by
  cases n with
  | zero => rfl
  | succ n => rw [wk, if_neg (fun c => h c.1)]
theorem wk_free {n : Nat} {l : List GTerm} {x : GTerm} (h : ∀ i : Nat, x.gNum = (i : Int) → ∀ y, l[i]? = some y → y.gKind = 0) : wk n l x = x := by
  cases n with
  | zero => rfl
  | succ n =>
    rw [wk]
    split
    · rename_i c
      split
      · rename_i y hy
        rw [if_pos (h x.gNum.toNat (by omega) y hy)]
      · rfl
    · rfl
theorem walk_L1 (k : Nat) (l : List GTerm) (hl : l.length ≤ 1048576) : ∀ (m n : Nat) (x : GTerm), n ≤ 5000 → 5000 - n < m →
    pspec_l04Walk_L1 k l m (n : Int) x = some (.done (wk (5000 - n) l x)) ∧ pimpl_walked_L1 k l m (n : Int) x = some (.done (wk (5000 - n) l x)) ∧ pspec_l04Walk_i_L1 k l m (n : Int) x = some (.done (wk (5000 - n) l x)) ∧ pimpl_walked_i_L1 k l m (n : Int) x = some (.done (wk (5000 - n) l x))
  | 0, n, x, h1, h2 => by omega
  | m + 1, n, x, h1, h2 => by
    unfold pspec_l04Walk_L1 pimpl_walked_L1 pspec_l04Walk_i_L1 pimpl_walked_i_L1
    have hw1 : wr.i64 ((l.length : Int) - 1) = (l.length : Int) - 1 := wr_i64 (by omega) (by omega)
    by_cases hlt : n < 5000
    · have hd : decide ((n : Int) < 5000) = true := by simp; omega
      obtain ⟨q, hq⟩ : ∃ q, 5000 - n = q + 1 := ⟨4999 - n, by omega⟩
      rw [if_pos hd, if_pos hd, if_pos hd, if_pos hd, l01In, within, hw1, hq, wk]
      simp only [Option.bind_some]
      by_cases hk : x.gKind = 1
      · have e1 : (x.gKind != 1) = false := by simp [hk]
        have e2 : (x.gKind == 1) = true := by simp [hk]
        by_cases ha : 0 ≤ x.gNum ∧ x.gNum ≤ (l.length : Int) - 1
        · have e3 : inR x.gNum 0 ((l.length : Int) - 1) = true := inR_t ha
          obtain ⟨i, hi⟩ : ∃ i : Nat, x.gNum = (i : Int) := ⟨x.gNum.toNat, by omega⟩
          have hil : i < l.length := by omega
          have hs : wr.i64 ((n : Int) + 1) = ((n + 1 : Nat) : Int) := by rw [wr_i64 (by omega) (by omega)]; omega
          simp only [e1, e2, e3, Bool.not_true, Bool.false_eq_true, if_false, if_true]
          rw [hi, if_pos ⟨hk, by omega, by omega⟩, Int.toNat_natCast, List.getElem?_eq_getElem hil]
          simp only [at_lt hil, Option.bind_some, hs]
          by_cases h0 : l[i].gKind = 0
          · have e4 : (l[i].gKind == 0) = true := by simp [h0]
            have e5 : (l[i].gKind != 0) = false := by simp [h0]
            simp only [e4, e5, Bool.false_eq_true, if_false, if_true, if_pos h0]
            refine ⟨?_, ?_, ?_, ?_⟩ <;> first | rfl | trivial
          · have e4 : (l[i].gKind == 0) = false := by simp [h0]
            have e5 : (l[i].gKind != 0) = true := by simp [h0]
            simp only [e4, e5, Bool.false_eq_true, if_false, if_true, if_neg h0]
            have := walk_L1 k l hl m (n + 1) l[i] (by omega) (by omega)
            rw [show 5000 - (n + 1) = q by omega] at this
            exact this
        · have e3 : inR x.gNum 0 ((l.length : Int) - 1) = false := inR_f ha
          simp only [e1, e2, e3, Bool.not_false, Bool.false_eq_true, if_false, if_true]
          rw [if_neg (fun c => ha ⟨c.2.1, by omega⟩)]
          refine ⟨?_, ?_, ?_, ?_⟩ <;> first | rfl | trivial
      · have e1 : (x.gKind != 1) = true := by simp [hk]
        have e2 : (x.gKind == 1) = false := by simp [hk]
        simp only [e1, e2, Bool.false_eq_true, if_false, if_true]
        rw [if_neg (fun c => hk c.1)]
        refine ⟨?_, ?_, ?_, ?_⟩ <;> first | rfl | trivial
    · have hd : ¬ decide ((n : Int) < 5000) = true := by simp; omega
      rw [if_neg hd, if_neg hd, if_neg hd, if_neg hd, show 5000 - n = 0 by omega]
      refine ⟨?_, ?_, ?_, ?_⟩ <;> first | rfl | trivial
theorem walk4 {k : Nat} (hk : maxLen < k) {l : List GTerm} (hl : l.length ≤ 1048576) (x : GTerm) :
    pspec_l04Walk k l x = some (wk 5000 l x) ∧ pimpl_walked k l x = some (wk 5000 l x) ∧ pspec_l04Walk_i k l x = some (l, wk 5000 l x) ∧ pimpl_walked_i k l x = some (l, wk 5000 l x) := by
  rw [maxLen_eq] at hk
  unfold pspec_l04Walk pimpl_walked pspec_l04Walk_i pimpl_walked_i
  obtain ⟨h1, h2, h3, h4⟩ := walk_L1 k l hl k 0 x (by omega) (by omega)
  rw [show ((0 : Nat) : Int) = 0 from rfl] at h1 h2 h3 h4
  rw [h1, h2, h3, h4]
  refine ⟨?_, ?_, ?_, ?_⟩ <;> first | rfl | trivial
def Z0 : GTerm := .mk 0 (bs []) 0 []
/-- What a term is filled to: what is left, the term, and whether it went well. -/
def fillP (l : List GTerm) : Nat → GTerm → Int → Int × GTerm × Bool
  | 0, _, left => (left - 1, Z0, false)
  | n + 1, x, left => if left - 1 < 0 then (left - 1, Z0, false) else
    match fillsP (fun y b => fillP l n y b) (wk 5000 l x).gKids (left - 1) with
    | (left', o, true) => (left', .mk (wk 5000 l x).gKind (wk 5000 l x).gName (wk 5000 l x).gNum o, true)
    | (left', _, false) => (left', Z0, false)
where
  fillsP (f : GTerm → Int → Int × GTerm × Bool) : List GTerm → Int → Int × List GTerm × Bool
  | [], left => (left, [], true)
  | x :: xs, left => match f x left with
    | (left', y, true) => match fillsP f xs left' with
      | (left'', ys, g) => (left'', y :: ys, g)
    | (left', _, false) => (left', [], false)
theorem fill_L1 {k : Nat} {f : List GTerm → GTerm → Int → Int → Option (Int × GTerm × Bool)} {F : GTerm → Int → Int × GTerm × Bool} {x : GTerm} {d : Int} {l : List GTerm} (hx : x.gKids.length ≤ 400) (hd : wr.i64 (d + 1) = d + 1)
    (hf : ∀ z ∈ x.gKids, ∀ b : Int, 0 ≤ b → b ≤ 400 → f l z (d + 1) b = some (F z b) ∧ ((F z b).2.2 = true → 0 ≤ (F z b).1 ∧ (F z b).1 ≤ b)) :
    ∀ (m j : Nat) (a : Int) (s : ByteArray) (c : Int) (o : List GTerm) (b : Int), j ≤ x.gKids.length → x.gKids.length - j < m → o.length = j → 0 ≤ b → b ≤ 400 →
      pimpl_fill_d_L1 k f x l d m (j : Int) (.mk a s c o) b = some (match fillP.fillsP F (x.gKids.drop j) b with
        | (b', o', true) => .done (.mk a s c (o ++ o'), b')
        | (b', _, false) => .ret (b', Z0, false))
  | 0, j, a, s, c, o, b, h1, h2, h3, h4, h5 => by omega
  | m + 1, j, a, s, c, o, b, h1, h2, h3, h4, h5 => by
    have hm : x.gKids.length ≤ maxLen := by rw [maxLen_eq]; omega
    unfold pimpl_fill_d_L1
    by_cases hlt : j < x.gKids.length
    · rw [if_pos (by simpa using hlt), at_lt hlt, hd, List.drop_eq_getElem_cons hlt]
      obtain ⟨e, g⟩ := hf _ (List.getElem_mem hlt) b h4 h5
      simp only [obs]
      rw [e]
      simp only [obs]
      rw [fillP.fillsP]
      rcases hF : F x.gKids[j] b with ⟨b', y, t⟩
      cases t with
      | false => rfl
      | true =>
        rw [hF] at g
        obtain ⟨g1, g2⟩ := g rfl
        simp only at g1 g2
        rw [if_neg (by simp), if_pos (by rw [mk_gKids]; simp; omega), wr_succ hlt hm, mk_gKids, mk_gKind, mk_gName, mk_gNum, fill_L1 (k := k) hx hd hf m (j + 1) a s c (o ++ [y]) b' (by omega) (by omega) (by simp; omega) g1 (by omega)]
        rcases hr : fillP.fillsP F (x.gKids.drop (j + 1)) b' with ⟨b'', ys, t⟩
        simp only [hr]
        cases t with
        | false => rfl
        | true => simp
    · rw [if_neg (by simpa using hlt), List.drop_of_length_le (by omega)]
      simp [fillP.fillsP]
theorem fillsP_le {F : GTerm → Int → Int × GTerm × Bool} : ∀ {xs : List GTerm} {b : Int} {b' : Int} {o : List GTerm}, (∀ z ∈ xs, ∀ b b' y, F z b = (b', y, true) → 0 ≤ b' ∧ b' = b - (1 + nT y)) → 0 ≤ b →
    fillP.fillsP F xs b = (b', o, true) → 0 ≤ b' ∧ b' = b - nsum nT o ∧ o.length = xs.length
  | [], b, b', o, hF, h0, h => by
    rw [fillP.fillsP] at h
    cases h
    exact ⟨h0, by simp [nsum], rfl⟩
  | x :: xs, b, b', o, hF, h0, h => by
    rw [fillP.fillsP] at h
    rcases e : F x b with ⟨b1, y, t⟩
    rw [e] at h
    cases t with
    | false => cases h
    | true =>
      simp only at h
      rcases e2 : fillP.fillsP F xs b1 with ⟨b2, ys, t⟩
      rw [e2] at h
      cases h
      obtain ⟨h1, h2⟩ := hF x (List.mem_cons_self ..) b b1 y e
      obtain ⟨h3, h4, h5⟩ := fillsP_le (fun z hz => hF z (List.mem_cons_of_mem _ hz)) h1 e2
      refine ⟨h3, ?_, by simp [h5]⟩
      show b2 = b - ((nsum nT (y :: ys) : Nat) : Int)
      rw [nsum]
      omega
theorem fillP_le {l : List GTerm} : ∀ (n : Nat) {x : GTerm} {b b' : Int} {o : GTerm}, fillP l n x b = (b', o, true) → 0 ≤ b' ∧ b' = b - (1 + nT o)
  | 0, x, b, b', o, h => by rw [fillP] at h; cases h
  | n + 1, x, b, b', o, h => by
    rw [fillP] at h
    split at h
    · cases h
    · rename_i hb
      split at h
      · rename_i b2 ys e
        cases h
        obtain ⟨h1, h2, h3⟩ := fillsP_le (fun z hz b b' y h => fillP_le n h) (by omega) e
        refine ⟨h1, ?_⟩
        rw [nT_kids, mk_gKids]
        omega
      · cases h
theorem fill : ∀ (k d : Nat) (l : List GTerm) (x : GTerm) (b : Int), l.length ≤ 1048576 → AllB l → BigT x → d ≤ 41 → maxLen + (42 - d) < k → 0 ≤ b → b ≤ 400 →
    pimpl_fill_d k l x (d : Int) b = some (fillP l (41 - d) x b)
  | 0, d, l, x, b, hl, ha, hx, hd, hk, h0, h4 => by omega
  | k + 1, d, l, x, b, hl, ha, hx, hd, hk, h0, h4 => by
    have hM := maxLen_eq
    have hw : wr.i64 (b - 1) = b - 1 := wr_i64 (by omega) (by omega)
    unfold pimpl_fill_d
    rw [(walk4 (k := k) (by omega) hl x).2.1]
    have hy : BigT (wk 5000 l x) := wk_in ha 5000 x hx
    simp only [obs]
    rw [hw]
    by_cases c1 : b - 1 < 0
    · rw [if_pos (by simpa using c1)]
      cases 41 - d with
      | zero => rfl
      | succ n => rw [fillP, if_pos c1]; rfl
    rw [if_neg (by simpa using c1)]
    by_cases c2 : (d : Int) > 40
    · rw [if_pos (by simpa using c2), show 41 - d = 0 by omega]
      rfl
    rw [if_neg (by simpa using c2)]
    obtain ⟨n, hn⟩ : ∃ n, 41 - d = n + 1 := ⟨40 - d, by omega⟩
    have hwd : wr.i64 ((d : Int) + 1) = (d : Int) + 1 := wr_i64 (by omega) (by omega)
    have e := fill_L1 (k := k) (f := pimpl_fill_d k) (F := fun y b => fillP l n y b) (x := wk 5000 l x) (d := (d : Int)) (l := l) (big_kids hy) hwd (fun z hz b h0 h4 => by
      have := fill k (d + 1) l z b hl ha (big_kid hy hz) (by omega) (by omega) h0 h4
      rw [show ((d + 1 : Nat) : Int) = (d : Int) + 1 by omega, show 41 - (d + 1) = n by omega] at this
      refine ⟨this, fun ht => ?_⟩
      rcases e2 : fillP l n z b with ⟨b', y, t⟩
      rw [e2] at ht
      have ht : t = true := ht
      subst ht
      obtain ⟨q1, q2⟩ := fillP_le n e2
      exact ⟨q1, by show b' ≤ b; omega⟩) k 0 (wk 5000 l x).gKind (wk 5000 l x).gName (wk 5000 l x).gNum [] (b - 1) (by omega) (by have := big_kids hy; omega) rfl (by omega) (by omega)
    rw [show ((0 : Nat) : Int) = 0 from rfl, List.drop_zero] at e
    rw [e, hn, fillP, if_neg c1]
    generalize fillP.fillsP (fun y b => fillP l n y b) (wk 5000 l x).gKids (b - 1) = r
    obtain ⟨b', ys, t⟩ := r
    cases t with
    | false => rfl
    | true => rfl
theorem one_len (x : GTerm) (l : List GTerm) (h : l.length = x.gKids.length) : one (.mk x.gKind x.gName x.gNum l) = one x := by
  unfold one
  simp only [mk_gKind, mk_gName, mk_gNum, mk_gKids, h]
  rfl
theorem bad_L2 {k : Nat} {f : GL04Fill → GTerm → Int → Option (GL04Fill × GTerm)} {x : GTerm} {d : Int} {o : GTerm} {c : GL04Fill} (hb : c.gBad = true) (m : Nat) (j : Int) : pspec_l04Fill_fill_L2 k f x d (m + 1) j o c = some (.done (o, c)) := by
  unfold pspec_l04Fill_fill_L2
  split
  · rw [if_neg (by rw [hb]; decide)]
  · rfl
theorem fillS_L2 {k : Nat} {f : GL04Fill → GTerm → Int → Option (GL04Fill × GTerm)} {F : GTerm → Int → Int × GTerm × Bool} {x : GTerm} {d : Int} {l : List GTerm} (hx : x.gKids.length ≤ 400) (hd : wr.i64 (d + 1) = d + 1)
    (hf : ∀ z ∈ x.gKids, ∀ b : Int, 0 ≤ b → b ≤ 400 → ∃ c' y, f (.mk l b false) z (d + 1) = some (c', y) ∧
      (∀ b' o, F z b = (b', o, true) → gT (d + 1) o = true → c' = .mk l b' false ∧ y = o ∧ 0 ≤ b' ∧ b' ≤ b) ∧ ((∀ b' o, F z b = (b', o, true) → gT (d + 1) o = false) → c'.gBad = true)) (a : Int) (s : ByteArray) (c0 : Int) :
    ∀ (m j : Nat) (acc : List GTerm) (b : Int), j ≤ x.gKids.length → x.gKids.length - j < m → acc.length = j → 0 ≤ b → b ≤ 400 →
      ∃ o' c', pspec_l04Fill_fill_L2 k f x d m (j : Int) (.mk a s c0 acc) (.mk l b false) = some (.done (o', c')) ∧
      (∀ b' ys, fillP.fillsP F (x.gKids.drop j) b = (b', ys, true) → gTs (d + 1) ys = true → c' = .mk l b' false ∧ o' = .mk a s c0 (acc ++ ys)) ∧
      ((∀ b' ys, fillP.fillsP F (x.gKids.drop j) b = (b', ys, true) → gTs (d + 1) ys = false) → c'.gBad = true)
  | 0, j, acc, b, h1, h2, h3, h4, h5 => by omega
  | m + 1, j, acc, b, h1, h2, h3, h4, h5 => by
    have hm : x.gKids.length ≤ maxLen := by rw [maxLen_eq]; omega
    unfold pspec_l04Fill_fill_L2
    by_cases hlt : j < x.gKids.length
    · rw [if_pos (by simpa using hlt), if_pos (by rfl), at_lt hlt, hd, List.drop_eq_getElem_cons hlt]
      simp only [obs]
      obtain ⟨c1, y1, e1, g1, g2⟩ := hf _ (List.getElem_mem hlt) b h4 h5
      rw [e1]
      simp only [obs]
      rw [if_pos (by rw [mk_gKids]; simp; omega), wr_succ hlt hm, mk_gKids, mk_gKind, mk_gName, mk_gNum, fillP.fillsP]
      obtain ⟨m, rfl⟩ : ∃ q, m = q + 1 := ⟨m - 1, by omega⟩
      rcases hF : F x.gKids[j] b with ⟨b1, y, t⟩
      rw [hF] at g1 g2
      cases t with
      | false =>
        have hb := g2 (fun b' o h => by cases h)
        rw [bad_L2 hb]
        exact ⟨_, _, rfl, (fun b' ys h => by cases h), fun _ => hb⟩
      | true =>
        cases hg : gT (d + 1) y with
        | false =>
          have hb := g2 (fun b' o h => by cases h; exact hg)
          rw [bad_L2 hb]
          refine ⟨_, _, rfl, fun b' ys h hh => ?_, fun _ => hb⟩
          simp only at h
          rcases hr : fillP.fillsP F (x.gKids.drop (j + 1)) b1 with ⟨b2, zs, t⟩
          rw [hr] at h
          cases h
          rw [gTs, hg] at hh
          cases hh
        | true =>
          obtain ⟨rfl, rfl, q1, q2⟩ := g1 b1 y rfl hg
          obtain ⟨o', c', e2, g3, g4⟩ := fillS_L2 (k := k) hx hd hf a s c0 (m + 1) (j + 1) (acc ++ [y1]) b1 (by omega) (by omega) (by simp; omega) q1 (by omega)
          refine ⟨o', c', e2, fun b' ys h hh => ?_, fun h => g4 (fun b' ys hr => ?_)⟩
          · simp only at h
            rcases hr : fillP.fillsP F (x.gKids.drop (j + 1)) b1 with ⟨b2, zs, t⟩
            rw [hr] at h
            cases h
            rw [gTs, hg, Bool.true_and] at hh
            obtain ⟨r1, r2⟩ := g3 _ _ hr hh
            exact ⟨r1, by rw [r2]; simp⟩
          · have := h b' (y1 :: ys) (by simp only [hr])
            rw [gTs, hg, Bool.true_and] at this
            exact this
    · rw [if_neg (by simpa using hlt), List.drop_of_length_le (by omega), fillP.fillsP]
      refine ⟨_, _, rfl, fun b' ys h hh => ?_, fun h => ?_⟩
      · cases h
        exact ⟨rfl, by simp⟩
      · have := h _ _ rfl
        rw [gTs] at this
        cases this
theorem fillS : ∀ (k d : Nat) (l : List GTerm) (x : GTerm) (b : Int), l.length ≤ 1048576 → AllB l → BigT x → d ≤ 41 → maxLen + (42 - d) < k → 0 ≤ b → b ≤ 400 →
    ∃ c' y, pspec_l04Fill_fill k (.mk l b false) x (d : Int) = some (c', y) ∧
      (∀ b' o, fillP l (41 - d) x b = (b', o, true) → gT (d : Int) o = true → c' = .mk l b' false ∧ y = o ∧ 0 ≤ b' ∧ b' ≤ b) ∧ ((∀ b' o, fillP l (41 - d) x b = (b', o, true) → gT (d : Int) o = false) → c'.gBad = true)
  | 0, d, l, x, b, hl, ha, hx, hd, hk, h0, h4 => by omega
  | k + 1, d, l, x, b, hl, ha, hx, hd, hk, h0, h4 => by
    have hM := maxLen_eq
    have hw : wr.i64 (b - 1) = b - 1 := wr_i64 (by omega) (by omega)
    have bad : ∀ z, (∀ b' o, fillP l (41 - d) x b = (b', o, true) → gT (d : Int) o = false) → ∃ c' y, pspec_l04Fill_fill_J1 k (pspec_l04Fill_fill k) (.mk l b false) z (d : Int) true = some (c', y) ∧
      (∀ b' o, fillP l (41 - d) x b = (b', o, true) → gT (d : Int) o = true → c' = .mk l b' false ∧ y = o ∧ 0 ≤ b' ∧ b' ≤ b) ∧ ((∀ b' o, fillP l (41 - d) x b = (b', o, true) → gT (d : Int) o = false) → c'.gBad = true) := by
      intro z hz
      unfold pspec_l04Fill_fill_J1
      rw [if_pos rfl]
      exact ⟨_, _, rfl, (fun b' o h hh => by rw [hz b' o h] at hh; cases hh), fun _ => rfl⟩
    unfold pspec_l04Fill_fill
    rw [(walk4 (k := k) (by omega) hl x).1]
    have hy : BigT (wk 5000 l x) := wk_in ha 5000 x hx
    simp only [obs]
    have d1 : decide (wr.i64 ((GL04Fill.mk l b false).gLeft - 1) < 0) = decide (b - 1 < 0) := by
      show decide (wr.i64 (b - 1) < 0) = _
      rw [hw]
    rw [if_neg (show ¬ (GL04Fill.mk l b false).gBad = true from Bool.false_ne_true), d1]
    by_cases c1 : b - 1 < 0
    · rw [if_pos (by simpa using c1)]
      refine bad _ (fun b' o h => ?_)
      obtain ⟨h1, h2⟩ := fillP_le _ h
      omega
    rw [if_neg (by simpa using c1)]
    by_cases c2 : (d : Int) > 40
    · rw [if_pos (by simpa using c2)]
      refine bad _ (fun b' o h => ?_)
      rw [show 41 - d = 0 by omega] at h
      cases h
    rw [if_neg (by simpa using c2), l03One hy.1 (by omega)]
    simp only [obs]
    obtain ⟨n, hn⟩ : ∃ n, 41 - d = n + 1 := ⟨40 - d, by omega⟩
    have hwd : wr.i64 ((d : Int) + 1) = (d : Int) + 1 := wr_i64 (by omega) (by omega)
    have node : ∀ b' o, fillP l (41 - d) x b = (b', o, true) → ∃ ys, fillP.fillsP (fun y b => fillP l n y b) (wk 5000 l x).gKids (b - 1) = (b', ys, true) ∧ o = .mk (wk 5000 l x).gKind (wk 5000 l x).gName (wk 5000 l x).gNum ys ∧ gT (d : Int) o = (one (wk 5000 l x) && gTs ((d : Int) + 1) ys) := by
      intro b' o h
      rw [hn, fillP, if_neg c1] at h
      rcases hr : fillP.fillsP (fun y b => fillP l n y b) (wk 5000 l x).gKids (b - 1) with ⟨b2, zs, t⟩
      rw [hr] at h
      cases t with
      | false => cases h
      | true =>
        cases h
        obtain ⟨_, _, h3⟩ := fillsP_le (fun z hz b b' y h => fillP_le n h) (by omega) hr
        refine ⟨_, rfl, rfl, ?_⟩
        rw [gT_eq, mk_gKids, one_len _ _ h3, decide_eq_true (by omega), Bool.true_and]
    cases ho : one (wk 5000 l x) with
    | false =>
      refine bad _ (fun b' o h => ?_)
      obtain ⟨ys, _, _, e⟩ := node b' o h
      rw [e, ho, Bool.false_and]
    | true =>
      unfold pspec_l04Fill_fill_J1
      rw [if_neg (by decide), show (GL04Fill.mk l b false).gLeft = b from rfl, show (GL04Fill.mk l b false).gList = l from rfl, show (GL04Fill.mk l b false).gBad = false from rfl, hw]
      obtain ⟨o', c', e, g1, g2⟩ := fillS_L2 (k := k) (f := pspec_l04Fill_fill k) (F := fun y b => fillP l n y b) (x := wk 5000 l x) (d := (d : Int)) (l := l) (big_kids hy) hwd (fun z hz b h0 h4 => by
        have := fillS k (d + 1) l z b hl ha (big_kid hy hz) (by omega) (by omega) h0 h4
        rw [show ((d + 1 : Nat) : Int) = (d : Int) + 1 by omega, show 41 - (d + 1) = n by omega] at this
        exact this) (wk 5000 l x).gKind (wk 5000 l x).gName (wk 5000 l x).gNum k 0 [] (b - 1) (by omega) (by have := big_kids hy; omega) rfl (by omega) (by omega)
      rw [show ((0 : Nat) : Int) = 0 from rfl] at e
      rw [List.drop_zero] at g1 g2
      rw [e]
      refine ⟨_, _, rfl, fun b' o h hh => ?_, fun h => g2 (fun b' ys hr => ?_)⟩
      · obtain ⟨ys, q1, rfl, q3⟩ := node b' o h
        rw [q3, ho, Bool.true_and] at hh
        obtain ⟨r1, r2⟩ := g1 b' ys q1 hh
        obtain ⟨q4, q5⟩ := fillP_le _ h
        exact ⟨r1, by rw [r2]; rfl, q4, by omega⟩
      · have h2 := h b' (.mk (wk 5000 l x).gKind (wk 5000 l x).gName (wk 5000 l x).gNum ys) (by rw [hn, fillP, if_neg c1, hr])
        obtain ⟨ys2, q1, q2, q3⟩ := node _ _ (show fillP l (41 - d) x b = (b', .mk (wk 5000 l x).gKind (wk 5000 l x).gName (wk 5000 l x).gNum ys, true) by rw [hn, fillP, if_neg c1, hr])
        rw [hr] at q1
        cases q1
        rw [q3, ho, Bool.true_and] at h2
        exact h2
theorem big_mk {x : GTerm} (hx : x.ok) {l : List GTerm} (h1 : l.length ≤ 400) (h2 : ∀ y ∈ l, y.ok) : (GTerm.mk x.gKind x.gName x.gNum l).ok := by
  cases hx with
  | mk a b c m h3 h4 h5 h6 h7 => exact .mk a b c l h3 h4 h5 (by rw [maxLen_eq]; omega) h2
theorem fillP_ok {l : List GTerm} (ha : AllB l) : ∀ (n : Nat) {x : GTerm} {b b' : Int} {o : GTerm}, BigT x → fillP l n x b = (b', o, true) → o.ok
  | 0, x, b, b', o, hx, h => by rw [fillP] at h; cases h
  | n + 1, x, b, b', o, hx, h => by
    rw [fillP] at h
    split at h
    · cases h
    · split at h
      · rename_i b2 ys e
        cases h
        have hy : BigT (wk 5000 l x) := wk_in ha 5000 x hx
        have key : ∀ (xs : List GTerm) (b b' : Int) (ys : List GTerm), (∀ z ∈ xs, BigT z) → fillP.fillsP (fun y b => fillP l n y b) xs b = (b', ys, true) → ys.length = xs.length ∧ ∀ y ∈ ys, y.ok := by
          intro xs
          induction xs with
          | nil => intro b b' ys hq h; rw [fillP.fillsP] at h; cases h; exact ⟨rfl, fun y hy => by cases hy⟩
          | cons z xs ih =>
            intro b b' ys hq h
            rw [fillP.fillsP] at h
            rcases e : fillP l n z b with ⟨b1, y, t⟩
            simp only [e] at h
            cases t with
            | false => cases h
            | true =>
              simp only at h
              rcases e2 : fillP.fillsP (fun y b => fillP l n y b) xs b1 with ⟨b2, zs, t⟩
              rw [e2] at h
              cases h
              obtain ⟨h1, h2⟩ := ih _ _ _ (fun z hz => hq z (List.mem_cons_of_mem _ hz)) e2
              refine ⟨by simp [h1], fun w hw => ?_⟩
              rcases List.mem_cons.1 hw with rfl | hw
              · exact fillP_ok ha n (hq z (List.mem_cons_self ..)) e
              · exact h2 w hw
        obtain ⟨h1, h2⟩ := key _ _ _ _ (fun z hz => big_kid hy hz) e
        exact big_mk hy.1 (by have := big_kids hy; omega) h2
      · cases h
theorem big_w {k : Nat} (hk : maxLen + 1000000 < k) {x : GTerm} (h : nT x ≤ 1000) : maxLen + 2 * nT x + 2 < k := by
  have : 2 * nT x + 2 ≤ 1000000 := by omega
  omega
/-- What a term is filled to, if that is right. -/
def fP (l : List GTerm) (x : GTerm) : GTerm × Bool := match fillP l 40 x 400 with
  | (_, o, true) => if gT 1 o = true then (o, true) else (Z0, false)
  | (_, _, false) => (Z0, false)
theorem z0_ok : BigT Z0 := ⟨ok_mk (by omega) (by decide) (by omega) (by simp) (fun x hx => by cases hx), by
  rw [nT_kids]
  show nsum nT [] ≤ 400
  simp [nsum]⟩
theorem fP_spec {l : List GTerm} (ha : AllB l) {x : GTerm} (hx : BigT x) : ((fP l x).2 = false ∧ (fP l x).1 = Z0) ∨ ∃ b' o, fillP l 40 x 400 = (b', o, true) ∧ fP l x = (o, true) ∧ gT 1 o = true ∧ nT o ≤ 399 ∧ o.ok ∧ 0 ≤ b' := by
  unfold fP
  rcases e : fillP l 40 x 400 with ⟨b', o, t⟩
  cases t with
  | false => exact .inl ⟨rfl, rfl⟩
  | true =>
    obtain ⟨h1, h2⟩ := fillP_le _ e
    simp only
    by_cases hg : gT 1 o = true
    · rw [if_pos hg]
      exact .inr ⟨b', o, rfl, rfl, hg, by omega, fillP_ok ha _ hx e, h1⟩
    · rw [if_neg hg]
      exact .inl ⟨rfl, rfl⟩
theorem fP_big {l : List GTerm} (ha : AllB l) {x : GTerm} (hx : BigT x) : BigT (fP l x).1 := by
  rcases fP_spec ha hx with ⟨_, h⟩ | ⟨b', o, _, h, _, h2, h3, _⟩
  · rw [h]; exact z0_ok
  · rw [h]; exact ⟨h3, by show nT o ≤ 400; omega⟩
theorem filledD {k : Nat} (hk : maxLen + 1000000 < k) {l : List GTerm} (hl : l.length ≤ 1048576) (ha : AllB l) {x : GTerm} (hx : BigT x) : pimpl_filled_d k l x = some (fP l x) := by
  unfold pimpl_filled_d fP
  have e := fill k 1 l x 400 hl ha hx (by decide) (Nat.lt_of_le_of_lt (Nat.add_le_add_left (by decide) _) hk) (by omega) (by omega)
  rw [show ((1 : Nat) : Int) = 1 from rfl, show 41 - 1 = 40 from rfl] at e
  rw [e]
  simp only [obs]
  rcases e2 : fillP l 40 x 400 with ⟨b', o, t⟩
  cases t with
  | false => rfl
  | true =>
    obtain ⟨h1, h2⟩ := fillP_le _ e2
    have ho := fillP_ok ha _ hx e2
    rw [if_neg (by simp), impl_TermOk (big_w hk (by show nT o ≤ 1000; omega)) ho]
    simp only [obs]
    unfold tOk
    rw [decide_eq_true (by show 1 + nT o ≤ 400; omega), Bool.true_and]
    show (if (!gT 1 o) = true then _ else _) = _
    cases hg : gT 1 o with
    | false => rfl
    | true => rfl
theorem filledS {k : Nat} (hk : maxLen + 1000000 < k) {l : List GTerm} (hl : l.length ≤ 1048576) (ha : AllB l) {x : GTerm} (hx : BigT x) : pspec_l04Filled k l x = some (fP l x) := by
  unfold pspec_l04Filled fP
  obtain ⟨c', y, e, h1, h2⟩ := fillS k 1 l x 400 hl ha hx (by decide) (Nat.lt_of_le_of_lt (Nat.add_le_add_left (by decide) _) hk) (by omega) (by omega)
  rw [show ((1 : Nat) : Int) = 1 from rfl] at e h1 h2
  rw [show 41 - 1 = 40 from rfl] at h1 h2
  rw [e]
  simp only [obs]
  rcases e2 : fillP l 40 x 400 with ⟨b', o, t⟩
  cases t with
  | false =>
    rw [if_pos (h2 (fun b' o h => by rw [e2] at h; cases h))]
    rfl
  | true =>
    cases hg : gT 1 o with
    | false =>
      rw [if_pos (h2 (fun b' o h => by rw [e2] at h; cases h; exact hg))]
      simp only
      rw [if_neg (by rw [hg]; decide)]
      rfl
    | true =>
      obtain ⟨rfl, rfl, _⟩ := h1 b' o e2 hg
      rw [if_neg (show ¬ false = true from Bool.false_ne_true)]
      simp only
      rw [if_pos hg]
theorem dCopy : @pimpl_copyTerm_d = @pimpl_copyTerm := by kernel_rfl
theorem copyTerms_L1 {k : Nat} (hk : maxLen + 1000000 < k) {l : List GTerm} (hl : l.length ≤ 1000) (ha : AllB l) : ∀ (m j : Nat), j ≤ l.length → l.length - j < m → pimpl_copyTerms_d_L1 k l m (l.take j) (j : Int) = some (.done l)
  | 0, j, h1, h2 => by omega
  | m + 1, j, h1, h2 => by
    unfold pimpl_copyTerms_d_L1
    have hm : l.length ≤ maxLen := by rw [maxLen_eq]; omega
    by_cases hlt : j < l.length
    · have hb := ha _ (List.getElem_mem hlt)
      rw [if_pos (by simpa using hlt), at_lt hlt, obs, dCopy, copyTerm (big_w hk (by have := hb.2; omega)) (by have := hb.2; omega), obs, if_pos (by simp; omega), wr_succ hlt hm, ← List.take_succ_eq_append_getElem hlt]
      exact copyTerms_L1 hk hl ha m (j + 1) (by omega) (by omega)
    · rw [if_neg (by simpa using hlt), List.take_of_length_le (by omega)]
theorem copyTerms {k : Nat} (hk : maxLen + 1000000 < k) {l : List GTerm} (hl : l.length ≤ 1000) (ha : AllB l) : pimpl_copyTerms_d k l = some l := by
  unfold pimpl_copyTerms_d
  have hM := maxLen_eq
  have e := copyTerms_L1 hk hl ha k 0 (by omega) (by omega)
  rw [show ((0 : Nat) : Int) = 0 from rfl, List.take_zero] at e
  rw [e]
  rfl
theorem filledI {k : Nat} (hk : maxLen + 1000000 < k) {b : GBinds} (hl : b.gList.length ≤ 1000) (ha : AllB b.gList) {x : GTerm} (hx : BigT x) : pimpl_Filled_d k b x = some (fP b.gList x) := by
  unfold pimpl_Filled_d
  rw [filledD hk (by omega) ha hx]
  rfl
theorem filledSpec {k : Nat} (hk : maxLen + 1000000 < k) {b : GBinds} (hl : b.gList.length ≤ 1000) (ha : AllB b.gList) {x : GTerm} (hx : BigT x) : pspec_Filled k b x = some (fP b.gList x) := by
  unfold pspec_Filled
  rw [filledS hk (by omega) ha hx]
  rfl
theorem walkedI {k : Nat} (hk : maxLen + 1000000 < k) {b : GBinds} (hl : b.gList.length ≤ 1000) (ha : AllB b.gList) {x : GTerm} (hx : BigT x) : pimpl_Walked_d k b x = some (wk 5000 b.gList x) := by
  have hy : BigT (wk 5000 b.gList x) := wk_in ha 5000 x hx
  unfold pimpl_Walked_d
  rw [(walk4 (k := k) (Nat.lt_of_le_of_lt (Nat.le_add_right _ _) hk) (l := b.gList) (by omega) x).2.1, obs, dCopy, copyTerm (big_w hk (by have := hy.2; omega)) (by have := hy.2; omega), obs]
theorem walkedS {k : Nat} (hk : maxLen + 1000000 < k) {b : GBinds} (hl : b.gList.length ≤ 1000) (ha : AllB b.gList) {x : GTerm} (hx : BigT x) : pspec_Walked k b x = some (wk 5000 b.gList x) := by
  have hy : BigT (wk 5000 b.gList x) := wk_in ha 5000 x hx
  unfold pspec_Walked pspec_l04WalkedRaw
  rw [(walk4 (k := k) (Nat.lt_of_le_of_lt (Nat.le_add_right _ _) hk) (l := b.gList) (by omega) x).1, obs, obs, l34Term (big_w hk (by have := hy.2; omega)) (by have := hy.2; omega), obs]
theorem has_L1 {k : Nat} {f : GTerm → Int → Option Bool} {l : List GTerm} {v : Int} (hl : l.length ≤ 400) (hf : ∀ y ∈ l, ∃ b, f y v = some b ∧ (¬ v ∈ vs y → b = false)) : ∀ (m j : Nat), j ≤ l.length → l.length - j < m →
    ∃ o, pslices_IndexFunc___impl_Term_impl_Term__on1_pimpl_has_1_L1 k f l v m (j : Int) = some o ∧ ((∃ i, o = .ret i ∧ 0 ≤ i ∧ ∃ y ∈ l, v ∈ vs y) ∨ o = .done ())
  | 0, j, h1, h2 => by omega
  | m + 1, j, h1, h2 => by
    unfold pslices_IndexFunc___impl_Term_impl_Term__on1_pimpl_has_1_L1
    have hm : l.length ≤ maxLen := by rw [maxLen_eq]; omega
    by_cases hlt : j < l.length
    · obtain ⟨b, e, h⟩ := hf _ (List.getElem_mem hlt)
      rw [if_pos (by simpa using hlt), at_lt hlt, obs]
      unfold pimpl_has_1
      rw [e, obs, obs]
      cases b with
      | true =>
        rw [if_pos rfl]
        refine ⟨_, rfl, .inl ⟨_, rfl, by omega, _, List.getElem_mem hlt, ?_⟩⟩
        by_cases hv : v ∈ vs l[j]
        · exact hv
        · exact absurd (h hv) (by decide)
      | false =>
        rw [if_neg (by decide), wr_succ hlt hm]
        exact has_L1 hl hf m (j + 1) (by omega) (by omega)
    · rw [if_neg (by simpa using hlt)]
      exact ⟨_, rfl, .inr rfl⟩
theorem has : ∀ (k : Nat) (x : GTerm) (v : Int), BigT x → maxLen + 2 * nT x + 2 < k → ∃ b, pimpl_has k x v = some b ∧ (¬ v ∈ vs x → b = false)
  | 0, x, v, hx, hk => by omega
  | k + 1, x, v, hx, hk => by
    have hM := maxLen_eq
    have hn := nT_kids x
    unfold pimpl_has
    by_cases c : x.gKind = 1
    · rw [if_pos (by simpa using c)]
      refine ⟨_, rfl, fun hv => ?_⟩
      rw [beq_eq_false_iff_ne]
      intro h
      exact hv (vs_mem.2 (.inl ⟨c, h.symm⟩))
    · rw [if_neg (by simpa using c)]
      unfold pslices_ContainsFunc___impl_Term_impl_Term__on1_pimpl_has_1 pslices_IndexFunc___impl_Term_impl_Term__on1_pimpl_has_1
      obtain ⟨o, e, h⟩ := has_L1 (k := k) (f := pimpl_has k) (l := x.gKids) (v := v) (big_kids hx) (fun y hy => by
        have := nsum_mem (n := nT) hy
        exact has k y v (big_kid hx hy) (by omega)) k 0 (by omega) (by have := big_kids hx; omega)
      rw [show ((0 : Nat) : Int) = 0 from rfl] at e
      rw [e]
      rcases h with ⟨i, rfl, h1, y, h2, h3⟩ | rfl
      · exact ⟨_, rfl, fun hv => absurd (vs_mem.2 (.inr ⟨y, h2, h3⟩)) hv⟩
      · exact ⟨_, rfl, fun _ => rfl⟩
theorem newBoth {k : Nat} {n : Int} (h : n ∈ [0, 3, -1, 5000, 5001]) : ∃ m, m ≤ 5000 ∧ pimpl_BindsNew_d k n = some (.mk (List.replicate m Z0)) ∧ pspec_BindsNew k n = some (.mk (List.replicate m Z0)) := by
  simp only [List.mem_cons, List.not_mem_nil, or_false] at h
  unfold pimpl_BindsNew_d pspec_BindsNew pspec_BindsNew_J1
  rcases h with rfl | rfl | rfl | rfl | rfl
  · exact ⟨0, by omega, rfl, rfl⟩
  · exact ⟨3, by omega, rfl, rfl⟩
  · exact ⟨0, by omega, rfl, rfl⟩
  · refine ⟨5000, by omega, ?_, ?_⟩
    · rw [if_pos (by decide)]; rfl
    · rw [if_neg (by decide), if_neg (by decide), if_pos (by decide)]; rfl
  · refine ⟨5000, by omega, ?_, ?_⟩
    · rw [if_pos (by decide)]; rfl
    · rw [if_neg (by decide), if_pos (by decide), if_pos (by decide)]; rfl
theorem sameBinds_L1 {k : Nat} {l : List GTerm} (hl : l.length ≤ 5000) (h : ∀ y ∈ l, pspec_SameTerm k y y = some true) : ∀ (m j : Nat), j ≤ l.length → l.length - j < m → plaws_sameBinds_L1 k (.mk l) (.mk l) m (j : Int) = some (.done ())
  | 0, j, h1, h2 => by omega
  | m + 1, j, h1, h2 => by
    unfold plaws_sameBinds_L1
    have hm : l.length ≤ maxLen := by rw [maxLen_eq]; omega
    rw [show (GBinds.mk l).gList = l from rfl]
    by_cases hlt : j < l.length
    · rw [if_pos (by simpa using hlt), at_lt hlt, obs, obs, h _ (List.getElem_mem hlt), obs, if_neg (by decide), wr_succ hlt hm]
      exact sameBinds_L1 hl h m (j + 1) (by omega) (by omega)
    · rw [if_neg (by simpa using hlt)]
theorem sameBinds {k : Nat} (hk : maxLen < k) {l : List GTerm} (hl : l.length ≤ 5000) (h : ∀ y ∈ l, pspec_SameTerm k y y = some true) : plaws_sameBinds k (.mk l) (.mk l) = some true := by
  unfold plaws_sameBinds
  have hM := maxLen_eq
  rw [if_neg (by simp)]
  have e := sameBinds_L1 (k := k) hl h k 0 (by omega) (by omega)
  rw [show ((0 : Nat) : Int) = 0 from rfl] at e
  rw [e]
  rfl
def QT (x : GTerm) : Prop := BigT x ∧ Low x
theorem QT.kid {x y : GTerm} (h : QT x) (hy : y ∈ x.gKids) : QT y := ⟨big_kid h.1 hy, h.2.kid hy⟩
def AllQ (l : List GTerm) : Prop := ∀ z ∈ l, QT z
theorem AllQ.b {l : List GTerm} (h : AllQ l) : AllB l := fun z hz => (h z hz).1
theorem AllQ.set {l : List GTerm} (h : AllQ l) (i : Nat) {x : GTerm} (hx : QT x) : AllQ (l.set i x) := fun z hz => by
  rcases List.mem_or_eq_of_mem_set hz with h1 | rfl
  · exact h z h1
  · exact hx
theorem kk1 {k : Nat} (hk : maxLen + 1000000 < k) : maxLen < k := Nat.lt_of_le_of_lt (Nat.le_add_right _ _) hk
theorem bindT {k : Nat} (hk : maxLen + 1000000 < k) {u : GUnifier} {n : Int} {x : GTerm} (hl : u.gList.length = 20) (ha : AllQ u.gList) (hx : QT x) (hb : u.gBound.length ≤ 10000) :
    ∃ u' b, pimpl_unifier_bind k u n x = some (u', b) ∧ u'.gList.length = 20 ∧ AllQ u'.gList ∧ u'.gPairs = u.gPairs ∧ u'.gBound.length ≤ u.gBound.length + 1 := by
  unfold pimpl_unifier_bind
  rw [filledD hk (by omega) ha.b hx.1, obs]
  split
  · exact ⟨_, _, rfl, hl, ha, rfl, Nat.le_succ _⟩
  obtain ⟨b, e, _⟩ := has k (fP u.gList x).1 n (fP_big ha.b hx.1) (big_w hk (by have := (fP_big ha.b hx.1).2; omega))
  rw [e, obs]
  split
  · exact ⟨_, _, rfl, hl, ha, rfl, Nat.le_succ _⟩
  rw [within, wr_i64 (by omega) (by omega), obs]
  by_cases h : 0 ≤ n ∧ n ≤ (u.gList.length : Int) - 1
  · rw [inR_t h, if_neg (by decide)]
    obtain ⟨i, rfl⟩ := Int.eq_ofNat_of_zero_le h.1
    rw [at_lt (show i < u.gList.length by omega), obs, if_pos (by simp; omega)]
    exact ⟨_, _, rfl, by simp [hl], ha.set _ hx, rfl, by simp⟩
  · rw [inR_f h, if_pos (by decide)]
    exact ⟨_, _, rfl, hl, ha, rfl, Nat.le_succ _⟩
/-- What comes of making two terms the same. -/
def Did (p : Int) (r : Option (GUnifier × Bool)) : Prop := ∃ u b, r = some (u, b) ∧ u.gList.length = 20 ∧ AllQ u.gList ∧ p ≤ u.gPairs ∧ u.gPairs ≤ 2001 ∧ (u.gBound.length : Int) ≤ u.gPairs ∧ (b = true → u.gPairs ≤ 2000)
theorem unify_L2 {k : Nat} {f : GUnifier → GTerm → GTerm → Option (GUnifier × Bool)} {x y : List GTerm × GTerm} {p : Int} (hx : QT x.2) (hy : QT y.2) (hxy : x.2.gKids.length = y.2.gKids.length)
    (hf : ∀ (u : GUnifier) (a b : GTerm), QT a → QT b → u.gList.length = 20 → AllQ u.gList → p ≤ u.gPairs → u.gPairs ≤ 2000 → (u.gBound.length : Int) ≤ u.gPairs → Did p (f u a b)) :
    ∀ (m j : Nat) (u : GUnifier), j ≤ x.2.gKids.length → x.2.gKids.length - j < m → u.gList.length = 20 → AllQ u.gList → p ≤ u.gPairs → u.gPairs ≤ 2000 → (u.gBound.length : Int) ≤ u.gPairs →
      (∃ u', pimpl_unifier_unify_L2 k f x y m (j : Int) u = some (.done u') ∧ u'.gList.length = 20 ∧ AllQ u'.gList ∧ p ≤ u'.gPairs ∧ u'.gPairs ≤ 2000 ∧ (u'.gBound.length : Int) ≤ u'.gPairs) ∨
      (∃ r, pimpl_unifier_unify_L2 k f x y m (j : Int) u = some (.ret r) ∧ r.1.gList.length = 20 ∧ AllQ r.1.gList ∧ p ≤ r.1.gPairs ∧ r.1.gPairs ≤ 2001 ∧ (r.1.gBound.length : Int) ≤ r.1.gPairs ∧ r.2 = false)
  | 0, j, u, h1, h2, h3, h4, h5, h6, h7 => by omega
  | m + 1, j, u, h1, h2, h3, h4, h5, h6, h7 => by
    have hm : x.2.gKids.length ≤ maxLen := by have := big_kids hx.1; rw [maxLen_eq]; omega
    unfold pimpl_unifier_unify_L2
    by_cases hlt : j < x.2.gKids.length
    · rw [if_pos (by simpa using hlt), at_lt hlt, at_lt (l := y.2.gKids) (by omega), obs, obs]
      obtain ⟨u', b, e1, g1, g2, g3, g4, g5, g6⟩ := hf u x.2.gKids[j] (y.2.gKids[j]'(by omega)) (hx.kid (List.getElem_mem hlt)) (hy.kid (List.getElem_mem (by omega))) h3 h4 h5 h6 h7
      rw [e1, obs]
      cases b with
      | false => rw [if_pos (by rfl)]; exact .inr ⟨_, rfl, g1, g2, g3, g4, g5, rfl⟩
      | true =>
        rw [if_neg (by simp), wr_succ hlt hm]
        exact unify_L2 hx hy hxy hf m (j + 1) u' (by omega) (by omega) g1 g2 g3 (g6 rfl) g5
    · rw [if_neg (by simpa using hlt)]
      exact .inl ⟨_, rfl, h3, h4, h5, h6, h7⟩
theorem unify : ∀ (k : Nat) (u : GUnifier) (x y : GTerm), u.gList.length = 20 → AllQ u.gList → QT x → QT y → 0 ≤ u.gPairs → u.gPairs ≤ 2000 → (u.gBound.length : Int) ≤ u.gPairs → maxLen + 1000000 + (2002 - u.gPairs.toNat) < k →
    Did (u.gPairs + 1) (pimpl_unifier_unify k u x y)
  | 0, u, x, y, hl, ha, hx, hy, h0, h1, h2, hk => absurd hk (Nat.not_lt_zero _)
  | k + 1, u, x, y, hl, ha, hx, hy, h0, h1, h2, hk => by
    have hw : wr.i64 (u.gPairs + 1) = u.gPairs + 1 := wr_i64 (by omega) (by omega)
    obtain ⟨A, hA⟩ : ∃ A, A = maxLen + 1000000 := ⟨_, rfl⟩
    rw [← hA] at hk
    have hk1 : maxLen + 1000000 < k := by rw [← hA]; omega
    have hk0 : maxLen < k := kk1 hk1
    unfold pimpl_unifier_unify
    rw [hw]
    by_cases c1 : u.gPairs + 1 > 2000
    · rw [if_pos (by simpa using c1)]
      exact ⟨_, _, rfl, hl, ha, Int.le_refl _, (by show u.gPairs + 1 ≤ 2001; omega), (by show (u.gBound.length : Int) ≤ u.gPairs + 1; omega), fun h => by cases h⟩
    rw [if_neg (by simpa using c1), (walk4 hk0 (l := u.gList) (by omega) x).2.2.2, obs]
    rw [show (u.gList, wk 5000 u.gList x).1 = u.gList from rfl, (walk4 hk0 (l := u.gList) (by omega) y).2.2.2, obs]
    have hx' : QT (wk 5000 u.gList x) := wk_in ha 5000 x hx
    have hy' : QT (wk 5000 u.gList y) := wk_in ha 5000 y hy
    generalize wk 5000 u.gList x = x' at hx'
    generalize wk 5000 u.gList y = y' at hy'
    have stay : ∀ b, Did (u.gPairs + 1) (some (GUnifier.mk u.gList u.gBound (u.gPairs + 1), b)) := fun b =>
      ⟨_, _, rfl, hl, ha, Int.le_refl _, (by show u.gPairs + 1 ≤ 2001; omega), (by show (u.gBound.length : Int) ≤ u.gPairs + 1; omega), fun _ => (by show u.gPairs + 1 ≤ 2000; omega)⟩
    have bd : ∀ n z, QT z → Did (u.gPairs + 1) ((pimpl_unifier_bind k (GUnifier.mk u.gList u.gBound (u.gPairs + 1)) n z).bind fun r => some (r.1, r.2)) := fun n z hz => by
      obtain ⟨u', b, e, q1, q2, q3, q4⟩ := bindT (k := k) hk1 (u := GUnifier.mk u.gList u.gBound (u.gPairs + 1)) (n := n) hl ha hz (by show u.gBound.length ≤ 10000; omega)
      rw [e]
      have q3 : u'.gPairs = u.gPairs + 1 := q3
      have q4 : u'.gBound.length ≤ u.gBound.length + 1 := q4
      exact ⟨u', b, rfl, q1, q2, by omega, by omega, by omega, fun _ => by omega⟩
    have J : ∀ g, Did (u.gPairs + 1) (pimpl_unifier_unify_J1 k (pimpl_unifier_unify k) (u.gList, x') (u.gList, y') u g) := fun g => by
      unfold pimpl_unifier_unify_J1
      rw [hw]
      simp only []
      split
      · split
        · exact stay true
        · split
          · exact bd _ _ hx'
          · exact bd _ _ hy'
      · split
        · exact bd _ _ hy'
        · split
          · exact bd _ _ hx'
          · split
            · exact stay false
            · split
              · exact stay false
              · split
                · exact stay false
                · split
                  · exact stay false
                  · rename_i hkids
                    have hxy : x'.gKids.length = y'.gKids.length := by
                      have h : (x'.gKids.length : Int) = y'.gKids.length := by simpa using hkids
                      omega
                    have hkk := big_kids hx'.1
                    rcases unify_L2 (k := k) (f := pimpl_unifier_unify k) (x := (u.gList, x')) (y := (u.gList, y')) (p := u.gPairs + 1) hx' hy' hxy (fun v a b qa qb v1 v2 v3 v4 v5 => by
                      obtain ⟨u2, b2, e, q1, q2, q3, q4, q5, q6⟩ := unify k v a b v1 v2 qa qb (by omega) v4 v5 (by rw [← hA]; omega)
                      exact ⟨u2, b2, e, q1, q2, by omega, q4, q5, q6⟩) k 0 (GUnifier.mk u.gList u.gBound (u.gPairs + 1)) (Nat.zero_le _) (by have hM := maxLen_eq; show x'.gKids.length - 0 < k; omega) hl ha (Int.le_refl _) (by show u.gPairs + 1 ≤ 2000; omega) (by show (u.gBound.length : Int) ≤ u.gPairs + 1; omega) with ⟨u', e, q1, q2, q3, q4, q5⟩ | ⟨r, e, q1, q2, q3, q4, q5, q6⟩
                    · rw [show ((0 : Nat) : Int) = 0 from rfl] at e
                      rw [e]
                      exact ⟨_, _, rfl, q1, q2, q3, by omega, q5, fun _ => q4⟩
                    · rw [show ((0 : Nat) : Int) = 0 from rfl] at e
                      rw [e]
                      exact ⟨r.1, r.2, rfl, q1, q2, q3, q4, q5, fun h => by rw [q6] at h; cases h⟩
    split
    · exact J _
    · exact J _
/-- Twenty places, none of them bound. -/
def E20 : List GTerm := List.replicate 20 Z0
theorem z0_q : QT Z0 := ⟨z0_ok, fun v hv => by
  rcases vs_mem.1 hv with ⟨c, _⟩ | ⟨y, hy, _⟩
  · exact absurd c (by decide)
  · cases hy⟩
theorem e20_q : AllQ E20 := fun z hz => by rw [List.eq_of_mem_replicate hz]; exact z0_q
theorem new20 (k : Nat) : pimpl_BindsNew_d k 20 = some (.mk E20) := by
  unfold pimpl_BindsNew_d
  rw [if_pos (by decide)]
  rfl
theorem unifyT {k : Nat} (hk : maxLen + 1100000 < k) {x y : GTerm} (hx : QT x) (hy : QT y) : ∃ b g, pimpl_Unify_d k (.mk E20) x y = some (b, g) ∧ b.gList.length = 20 ∧ AllQ b.gList := by
  have hk1 : maxLen + 1000000 < k := Nat.lt_of_le_of_lt (Nat.add_le_add_left (by decide) _) hk
  have J : ∀ (g : Bool) (u : GUnifier), u.gList.length = 20 → AllQ u.gList → ∃ b h, pimpl_Unify_d_J1 k (.mk E20) g u = some (b, h) ∧ b.gList.length = 20 ∧ AllQ b.gList := by
    intro g u h1 h2
    unfold pimpl_Unify_d_J1
    split
    · rw [copyTerms hk1 (by decide) e20_q.b, obs]
      exact ⟨_, _, rfl, rfl, e20_q⟩
    · rw [copyTerms hk1 (by omega) h2.b, obs]
      exact ⟨_, _, rfl, h1, h2⟩
  unfold pimpl_Unify_d
  rw [copyTerms hk1 (by decide) e20_q.b, obs, impl_TermOk (big_w hk1 (by have := hx.1.2; omega)) hx.1.1, impl_TermOk (big_w hk1 (by have := hy.1.2; omega)) hy.1.1, obs, obs]
  split
  · exact J _ _ rfl e20_q
  · split
    · exact J _ _ rfl e20_q
    · obtain ⟨u, b, e, q1, q2, _⟩ := unify k (.mk E20 [] 0) x y rfl e20_q hx hy (Int.le_refl _) (by show (0 : Int) ≤ 2000; omega) (Int.le_refl _) (by
        show maxLen + 1000000 + (2002 - (0 : Int).toNat) < k
        refine Nat.lt_of_le_of_lt ?_ hk
        rw [Nat.add_assoc]
        exact Nat.add_le_add_left (by decide) _)
      rw [e, obs]
      exact J _ _ q1 q2
mutual
/-- The variables ten higher. -/
def sh : GTerm → GTerm
  | .mk a b c l => .mk a b (if a = 1 then c + 10 else c) (shs l)
def shs : List GTerm → List GTerm
  | [] => []
  | x :: l => sh x :: shs l
end
theorem shs_eq : ∀ l : List GTerm, shs l = l.map sh
  | [] => by rw [shs]; rfl
  | x :: l => by rw [shs, shs_eq l]; rfl
theorem sh_eq (x : GTerm) : sh x = .mk x.gKind x.gName (if x.gKind = 1 then x.gNum + 10 else x.gNum) (x.gKids.map sh) := by
  cases x with
  | mk a b c l => rw [sh, shs_eq]; rfl
mutual
/-- The variables exchanged. -/
def sb (σ : Int → GTerm) : GTerm → GTerm
  | .mk a b c l => if a = 1 then σ c else .mk a b c (sbs σ l)
def sbs (σ : Int → GTerm) : List GTerm → List GTerm
  | [] => []
  | x :: l => sb σ x :: sbs σ l
end
theorem sbs_eq (σ : Int → GTerm) : ∀ l : List GTerm, sbs σ l = l.map (sb σ)
  | [] => by rw [sbs]; rfl
  | x :: l => by rw [sbs, sbs_eq σ l]; rfl
theorem sb_var {σ : Int → GTerm} {x : GTerm} (h : x.gKind = 1) : sb σ x = σ x.gNum := by
  cases x with
  | mk a b c l => rw [sb, if_pos (by exact h)]; rfl
theorem sb_not {σ : Int → GTerm} {x : GTerm} (h : x.gKind ≠ 1) : sb σ x = .mk x.gKind x.gName x.gNum (x.gKids.map (sb σ)) := by
  cases x with
  | mk a b c l => rw [sb, if_neg (by exact h), sbs_eq]; rfl
theorem ns_map {f : GTerm → GTerm} : ∀ {l : List GTerm}, (∀ y ∈ l, nT (f y) = nT y) → nsum nT (l.map f) = nsum nT l
  | [], _ => rfl
  | x :: l, h => by
    rw [List.map_cons, nsum, nsum, h x (List.mem_cons_self ..), ns_map (fun y hy => h y (List.mem_cons_of_mem _ hy))]
theorem kid_lt {x y : GTerm} (hy : y ∈ x.gKids) : nT y < nT x := by
  have h1 := nT_kids x
  have h2 := nsum_mem (n := nT) hy
  omega
theorem nT_sh (x : GTerm) : nT (sh x) = nT x := by
  rw [sh_eq, nT_kids, mk_gKids, nT_kids x]
  exact ns_map (fun y hy => nT_sh y)
termination_by nT x
decreasing_by exact kid_lt hy
theorem gT_one {d : Int} {x : GTerm} (h : gT d x = true) : d ≤ 40 ∧ one x = true ∧ gTs (d + 1) x.gKids = true := by
  rw [gT_eq, Bool.and_eq_true, Bool.and_eq_true, decide_eq_true_eq] at h
  exact h
theorem gTs_mem {d : Int} : ∀ {l : List GTerm}, gTs d l = true → ∀ y ∈ l, gT d y = true
  | [], _, y, hy => by cases hy
  | x :: l, h, y, hy => by
    rw [gTs, Bool.and_eq_true] at h
    rcases List.mem_cons.1 hy with rfl | hy
    · exact h.1
    · exact gTs_mem h.2 y hy
theorem gT_kid {d : Int} {x y : GTerm} (h : gT d x = true) (hy : y ∈ x.gKids) : gT (d + 1) y = true := gTs_mem (gT_one h).2.2 y hy
theorem gT_mono {x : GTerm} {d e : Int} (h : gT d x = true) (he : e ≤ d) : gT e x = true := by
  obtain ⟨h1, h2, h3⟩ := gT_one h
  rw [gT_eq, decide_eq_true (by omega), h2, gTs_all (fun y hy => gT_mono (gT_kid h hy) (by omega))]
  rfl
termination_by nT x
decreasing_by exact kid_lt hy
theorem one_var2 {x : GTerm} (h : one x = true) (hk : x.gKind = 1) : x.gName = bs [] ∧ x.gKids = [] := by
  unfold one at h
  rw [if_pos hk, Bool.and_eq_true, Bool.and_eq_true] at h
  refine ⟨sEq_iff.1 h.2.1, ?_⟩
  have := h.2.2
  rw [beq_iff_eq] at this
  exact List.eq_nil_of_length_eq_zero (by omega)
theorem one_sh {x : GTerm} (h : one x = true) (hx : Low x) : one (sh x) = true := by
  rw [sh_eq]
  unfold one at h ⊢
  rw [mk_gKind, mk_gName, mk_gNum, mk_gKids]
  by_cases c : x.gKind = 1
  · rw [if_pos c] at h ⊢
    have := hx x.gNum (vs_mem.2 (.inl ⟨c, rfl⟩))
    rw [if_pos c, inR_t (by omega), List.length_map]
    rw [Bool.and_eq_true] at h
    rw [h.2]
    rfl
  · rw [if_neg c] at h ⊢
    rw [if_neg c, List.length_map]
    exact h
theorem gT_sh {x : GTerm} {d : Int} (h : gT d x = true) (hx : Low x) : gT d (sh x) = true := by
  obtain ⟨h1, h2, h3⟩ := gT_one h
  rw [gT_eq, decide_eq_true h1, one_sh h2 hx, sh_eq, mk_gKids, gTs_all (fun y hy => by
    obtain ⟨z, hz, rfl⟩ := List.mem_map.1 hy
    exact gT_sh (gT_kid h hz) (hx.kid hz))]
  rfl
termination_by nT x
decreasing_by exact kid_lt hz
theorem shift_L2 {k : Nat} {f : GTerm → Int → Option GTerm} {x : GTerm} {a c : Int} {b : ByteArray} (hl : x.gKids.length ≤ 1048576) (hf : ∀ y ∈ x.gKids, f y 10 = some (sh y)) :
    ∀ (m j : Nat), j ≤ x.gKids.length → x.gKids.length - j < m → pspec_l03Shift_L2 k f x 10 m (j : Int) (.mk a b c ((x.gKids.map sh).take j)) = some (.done (.mk a b c (x.gKids.map sh)))
  | 0, j, h1, h2 => by omega
  | m + 1, j, h1, h2 => by
    unfold pspec_l03Shift_L2
    have hm : x.gKids.length ≤ maxLen := by rw [maxLen_eq]; omega
    by_cases hlt : j < x.gKids.length
    · rw [if_pos (by simpa using hlt), at_lt hlt, obs, hf _ (List.getElem_mem hlt), obs, mk_gKids, mk_gKind, mk_gName, mk_gNum, if_pos (by simp; omega), wr_succ hlt hm]
      have e : (x.gKids.map sh).take j ++ [sh x.gKids[j]] = (x.gKids.map sh).take (j + 1) := by
        rw [List.take_succ_eq_append_getElem (by rw [List.length_map]; exact hlt), List.getElem_map]
      rw [e]
      exact shift_L2 hl hf m (j + 1) (by omega) (by omega)
    · rw [if_neg (by simpa using hlt), List.take_of_length_le (by simp; omega)]
theorem shift : ∀ (k : Nat) (x : GTerm), maxLen + 2 * nT x + 2 < k → nT x ≤ 1000 → Low x → pspec_l03Shift k x 10 = some (sh x)
  | 0, x, h, _, _ => by omega
  | k + 1, x, hw, hn, hx => by
    have hk := nT_kids x
    have := nsum_len nT x.gKids
    have e : ∀ c : Int, pspec_l03Shift_J1 k (pspec_l03Shift k) x 10 (.mk x.gKind x.gName c x.gKids) = some (.mk x.gKind x.gName c (x.gKids.map sh)) := by
      intro c
      have e := shift_L2 (k := k) (f := pspec_l03Shift k) (x := x) (a := x.gKind) (b := x.gName) (c := c) (by omega) (fun y hy => by have := nsum_mem (n := nT) hy; exact shift k y (by omega) (by omega) (hx.kid hy)) k 0 (by omega) (by omega)
      rw [show ((0 : Nat) : Int) = 0 from rfl, List.take_zero] at e
      unfold pspec_l03Shift_J1
      rw [mk_gKind, mk_gName, mk_gNum, e]
      rfl
    unfold pspec_l03Shift
    rw [sh_eq]
    by_cases c : x.gKind = 1
    · have := hx x.gNum (vs_mem.2 (.inl ⟨c, rfl⟩))
      rw [if_pos (by simpa using c), e, if_pos c, wr_i64 (by omega) (by omega)]
    · have hx' : GTerm.mk x.gKind x.gName x.gNum x.gKids = x := by cases x; rfl
      have e := e x.gNum
      rw [hx'] at e
      rw [if_neg (by simpa using c), e, if_neg c]
theorem sh_big {x : GTerm} (h : gT 1 x = true) (hx : Low x) (hn : nT x ≤ 399) : BigT (sh x) ∧ tOk (sh x) = true := by
  have h1 := gT_sh h hx
  have h2 := nT_sh x
  refine ⟨⟨gT_ok _ _ h1, by omega⟩, ?_⟩
  unfold tOk
  rw [h1, decide_eq_true (by omega)]
  rfl
theorem shifted {k : Nat} (hk : maxLen + 1000000 < k) {x : GTerm} (h : gT 1 x = true) (hx : Low x) (hn : nT x ≤ 399) : pspec_Shifted k x 10 = some (sh x) := by
  obtain ⟨h1, h2⟩ := sh_big h hx hn
  have h3 := nT_sh x
  have ho : tOk x = true := by
    unfold tOk
    rw [h, decide_eq_true (by omega)]
    rfl
  unfold pspec_Shifted pspec_l03ShiftedRaw
  rw [spec_TermOk (big_w hk (by omega)) (gT_ok _ _ h), obs, ho, if_neg (by decide), l01In, obs, inR_t (by omega), if_neg (by decide), shift k x (big_w hk (by omega)) (by omega) hx, obs, spec_TermOk (big_w hk (by omega)) h1.1, obs, h2, if_neg (by decide), obs, l34Term (big_w hk (by omega)) (by omega), obs]
/-- Nothing is bound below ten. -/
def Fre (l : List GTerm) : Prop := ∀ i : Nat, i < 10 → ∀ y, l[i]? = some y → y.gKind = 0
theorem wk_low {l : List GTerm} (hl : Fre l) {n : Nat} {x : GTerm} (hx : Low x) : wk n l x = x := by
  by_cases c : x.gKind = 1
  · refine wk_free (fun i hi y hy => hl i ?_ y hy)
    have := hx x.gNum (vs_mem.2 (.inl ⟨c, rfl⟩))
    omega
  · exact wk_not c
theorem fill_congr {l : List GTerm} {x y : GTerm} (h : wk 5000 l x = wk 5000 l y) (n : Nat) (b : Int) : fillP l n x b = fillP l n y b := by
  cases n with
  | zero => rw [fillP, fillP]
  | succ n => rw [fillP, fillP, h]
theorem mk_eta (x : GTerm) : GTerm.mk x.gKind x.gName x.gNum x.gKids = x := by cases x; rfl
theorem fillsP_map {F : GTerm → Int → Int × GTerm × Bool} {f g : GTerm → GTerm} : ∀ {l : List GTerm} {b : Int}, (nsum nT (l.map g) : Int) ≤ b → (∀ y ∈ l, ∀ b : Int, (1 + nT (g y) : Int) ≤ b → F (f y) b = (b - (1 + nT (g y)), g y, true)) →
    fillP.fillsP F (l.map f) b = (b - nsum nT (l.map g), l.map g, true)
  | [], b, _, _ => by simp [fillP.fillsP, nsum]
  | x :: l, b, hb, h => by
    rw [List.map_cons, nsum] at hb
    rw [List.map_cons, List.map_cons, fillP.fillsP, h x (List.mem_cons_self ..) b (by omega), nsum]
    simp only
    rw [fillsP_map (by omega) (fun y hy => h y (List.mem_cons_of_mem _ hy))]
    simp only [Prod.mk.injEq, and_true]
    omega
theorem fillId {l : List GTerm} (hl : Fre l) : ∀ (n : Nat) {x : GTerm} {b : Int}, Low x → gT (41 - (n : Int)) x = true → (1 + nT x : Int) ≤ b → fillP l n x b = (b - (1 + nT x), x, true)
  | 0, x, b, hx, hg, hb => by have := (gT_one hg).1; omega
  | n + 1, x, b, hx, hg, hb => by
    have hn := nT_kids x
    rw [fillP, wk_low hl hx, if_neg (by omega)]
    have e := fillsP_map (F := fun y b => fillP l n y b) (f := id) (g := id) (l := x.gKids) (b := b - 1) (by rw [List.map_id]; omega) (fun y hy b hb => fillId hl n (hx.kid hy) (by
      have := gT_kid hg hy
      rwa [show 41 - ((n + 1 : Nat) : Int) + 1 = 41 - (n : Int) by omega] at this) hb)
    rw [List.map_id] at e
    rw [e]
    simp only
    rw [mk_eta]
    simp only [Prod.mk.injEq, and_true]
    omega
/-- What the numbers stand for, and which matter. -/
structure Sg (σ : Int → GTerm) (W : Int → Prop) : Prop where
  low : ∀ v, W v → 0 ≤ v ∧ v ≤ 3
  q : ∀ v, W v → QT (σ v)
  g : ∀ v, W v → gT 1 (σ v) = true
  n : ∀ v, W v → nT (σ v) ≤ 399
structure MS (σ : Int → GTerm) (W : Int → Prop) (l : List GTerm) : Prop where
  len : l.length = 20
  fr : Fre l
  at10 : ∀ v, W v → ∃ y, l[(10 + v).toNat]? = some y ∧ (y.gKind = 0 ∨ y = σ v)
  b : AllB l
theorem gT_kind {d : Int} {x : GTerm} (h : gT d x = true) : x.gKind ≠ 0 := by
  have := (one_ok (gT_one h).2.1).1
  omega
theorem wk_bound {l : List GTerm} (hl : Fre l) {x : GTerm} {v : Int} {y : GTerm} (hx : x.gKind = 1) (hv : x.gNum = v + 10) (h0 : 0 ≤ v) (hlen : (10 + v).toNat < l.length) (hy : l[(10 + v).toNat]? = some y) (hk : y.gKind ≠ 0) (hlow : Low y) : wk 5000 l x = y := by
  rw [show (5000 : Nat) = 4999 + 1 from rfl, wk, if_pos ⟨hx, by omega, by omega⟩, show x.gNum.toNat = (10 + v).toNat by omega, hy]
  simp only
  rw [if_neg hk, wk_low hl hlow]
theorem fillSh {σ : Int → GTerm} {W : Int → Prop} (hS : Sg σ W) {l : List GTerm} (hM : MS σ W l) : ∀ (n : Nat) {x : GTerm} {b : Int}, (∀ v ∈ vs x, W v ∧ l[(10 + v).toNat]? = some (σ v)) → gT (41 - (n : Int)) (sb σ x) = true → (1 + nT (sb σ x) : Int) ≤ b →
    fillP l n (sh x) b = (b - (1 + nT (sb σ x)), sb σ x, true)
  | 0, x, b, hx, hg, hb => by have := (gT_one hg).1; omega
  | n + 1, x, b, hx, hg, hb => by
    by_cases c : x.gKind = 1
    · obtain ⟨w1, w2⟩ := hx x.gNum (vs_mem.2 (.inl ⟨c, rfl⟩))
      rw [sb_var c] at hg hb ⊢
      have := hS.low _ w1
      have e : wk 5000 l (sh x) = wk 5000 l (σ x.gNum) := by
        rw [wk_low hM.fr (hS.q _ w1).2]
        refine wk_bound hM.fr (v := x.gNum) ?_ ?_ this.1 (by rw [hM.len]; omega) w2 (gT_kind hg) (hS.q _ w1).2
        · rw [sh_eq, mk_gKind]; exact c
        · rw [sh_eq, mk_gNum, if_pos c]
      rw [fill_congr e]
      exact fillId hM.fr (n + 1) (hS.q _ w1).2 hg hb
    · have hk : (sh x).gKind ≠ 1 := by rw [sh_eq, mk_gKind]; exact c
      have hn := nT_kids (sb σ x)
      rw [sb_not c] at hn hg hb ⊢
      rw [mk_gKids] at hn
      have e := fillsP_map (F := fun y b => fillP l n y b) (f := sh) (g := sb σ) (l := x.gKids) (b := b - 1) (by omega) (fun y hy b hb => fillSh hS hM n (fun v hv => hx v (vs_mem.2 (.inr ⟨y, hy, hv⟩))) (by
        have := gT_kid hg (y := sb σ y) (by rw [mk_gKids]; exact List.mem_map.2 ⟨y, hy, rfl⟩)
        rwa [show 41 - ((n + 1 : Nat) : Int) + 1 = 41 - (n : Int) by omega] at this) hb)
      rw [fillP, wk_not hk, if_neg (by omega), sh_eq, mk_gKids, mk_gKind, mk_gName, mk_gNum, if_neg c, e]
      simp only [Prod.mk.injEq, and_true]
      omega
theorem unify_congr {k : Nat} (hk : maxLen < k) {u : GUnifier} (hl : u.gList.length = 20) {x x' y y' : GTerm} (h : wk 5000 u.gList x = wk 5000 u.gList x') (h2 : wk 5000 u.gList y = wk 5000 u.gList y') : pimpl_unifier_unify (k + 1) u x y = pimpl_unifier_unify (k + 1) u x' y' := by
  unfold pimpl_unifier_unify
  split
  · rfl
  · rw [(walk4 hk (l := u.gList) (by omega) x).2.2.2, (walk4 hk (l := u.gList) (by omega) x').2.2.2, h, obs, obs, show (u.gList, wk 5000 u.gList x').1 = u.gList from rfl, (walk4 hk (l := u.gList) (by omega) y).2.2.2, (walk4 hk (l := u.gList) (by omega) y').2.2.2, h2]
theorem self_L2 {k : Nat} {f : GUnifier → GTerm → GTerm → Option (GUnifier × Bool)} {x : List GTerm × GTerm} {l : List GTerm} {bd : List Int} (hx : x.2.gKids.length ≤ 400)
    (hf : ∀ a ∈ x.2.gKids, ∀ p : Int, 0 ≤ p → p + 1 + nT a ≤ 2000 → f (.mk l bd p) a a = some (.mk l bd (p + 1 + nT a), true)) :
    ∀ (m j : Nat) (p : Int), j ≤ x.2.gKids.length → x.2.gKids.length - j < m → 0 ≤ p → p + nsum nT (x.2.gKids.drop j) ≤ 2000 → pimpl_unifier_unify_L2 k f x x m (j : Int) (.mk l bd p) = some (.done (.mk l bd (p + nsum nT (x.2.gKids.drop j))))
  | 0, j, p, h1, h2, h3, h4 => by omega
  | m + 1, j, p, h1, h2, h3, h4 => by
    have hm : x.2.gKids.length ≤ maxLen := by rw [maxLen_eq]; omega
    unfold pimpl_unifier_unify_L2
    by_cases hlt : j < x.2.gKids.length
    · rw [ns_drop hlt] at h4
      rw [if_pos (by simpa using hlt), at_lt hlt, obs, obs, hf _ (List.getElem_mem hlt) p h3 (by omega), obs, if_neg (by simp), wr_succ hlt hm, self_L2 hx hf m (j + 1) _ (by omega) (by omega) (by omega) (by omega), ns_drop hlt]
      simp only [Option.some.injEq, Out.done.injEq, GUnifier.mk.injEq, true_and]
      omega
    · rw [if_neg (by simpa using hlt), List.drop_of_length_le (by omega)]
      simp [nsum]
theorem unifySelf {l : List GTerm} (hl : l.length = 20) (hf : Fre l) {bd : List Int} : ∀ (k : Nat) (x : GTerm) (d p : Int), Low x → BigT x → gT d x = true → 0 ≤ p → p + 1 + nT x ≤ 2000 → maxLen + 2 * nT x + 2 < k →
    pimpl_unifier_unify k (.mk l bd p) x x = some (.mk l bd (p + 1 + nT x), true)
  | 0, x, d, p, hx, hb, hg, h0, h1, hk => absurd hk (Nat.not_lt_zero _)
  | k + 1, x, d, p, hx, hb, hg, h0, h1, hk => by
    have hw : wr.i64 (p + 1) = p + 1 := wr_i64 (by omega) (by omega)
    have hn := nT_kids x
    unfold pimpl_unifier_unify
    rw [show (GUnifier.mk l bd p).gPairs = p from rfl, show (GUnifier.mk l bd p).gList = l from rfl, show (GUnifier.mk l bd p).gBound = bd from rfl, hw, if_neg (by simp; omega), (walk4 (k := k) (by omega) (l := l) (by omega) x).2.2.2, wk_low hf hx, obs, show (l, x).1 = l from rfl, (walk4 (k := k) (by omega) (l := l) (by omega) x).2.2.2, wk_low hf hx, obs]
    by_cases c : x.gKind = 1
    · have hz : nT x = 0 := by
        rw [hn, (one_var2 (gT_one hg).2.1 c).2]
        rfl
      rw [if_pos (by simpa using c)]
      unfold pimpl_unifier_unify_J1
      rw [if_pos (by simpa using c), if_pos (by simp), show (GUnifier.mk l bd p).gPairs = p from rfl, show (GUnifier.mk l bd p).gBound = bd from rfl, hw, hz]
      simp
    · rw [if_neg (by simpa using c)]
      unfold pimpl_unifier_unify_J1
      rw [if_neg (by decide), if_neg (by simpa using c), if_neg (by simpa using c), if_neg (by simp), if_neg (by simp [sEq_refl]), if_neg (by simp), if_neg (by simp), show (GUnifier.mk l bd p).gPairs = p from rfl, show (GUnifier.mk l bd p).gBound = bd from rfl, hw]
      have e := self_L2 (k := k) (f := pimpl_unifier_unify k) (x := (l, x)) (l := l) (bd := bd) (big_kids hb) (fun a ha p h0 h1 => unifySelf hl hf k a (d + 1) p (hx.kid ha) (big_kid hb ha) (gT_kid hg ha) h0 h1 (by have := kid_lt (x := x) ha; omega)) k 0 (p + 1) (by omega) (by have := big_kids hb; have hM := maxLen_eq; show x.gKids.length - 0 < k; omega) (by omega) (by show p + 1 + (nsum nT (x.gKids.drop 0) : Int) ≤ 2000; rw [List.drop_zero, ← hn]; omega)
      rw [show ((0 : Nat) : Int) = 0 from rfl] at e
      rw [e]
      show some (GUnifier.mk l bd (p + 1 + nsum nT (x.gKids.drop 0)), true) = _
      rw [List.drop_zero, ← hn]
theorem bindM {k : Nat} (hk : maxLen + 1000000 < k) {σ : Int → GTerm} {W : Int → Prop} (hS : Sg σ W) {l : List GTerm} (hM : MS σ W l) {bd : List Int} {p v : Int} (hv : W v) (hb : bd.length ≤ 10000) :
    pimpl_unifier_bind k (.mk l bd p) (v + 10) (σ v) = some (.mk (l.set (10 + v).toNat (σ v)) (bd ++ [v + 10]) p, true) := by
  have h1 := hS.low _ hv
  have hq := hS.q _ hv
  have hg := hS.g _ hv
  have hn := hS.n _ hv
  have hl := hM.len
  unfold pimpl_unifier_bind
  rw [show (GUnifier.mk l bd p).gList = l from rfl, show (GUnifier.mk l bd p).gBound = bd from rfl, show (GUnifier.mk l bd p).gPairs = p from rfl, filledD hk (by omega) hM.b hq.1, obs]
  have e : fP l (σ v) = (σ v, true) := by
    unfold fP
    rw [fillId hM.fr 40 hq.2 hg (by omega)]
    simp only
    rw [if_pos hg]
  rw [e, if_neg (by simp)]
  obtain ⟨b, e2, h2⟩ := has k (σ v) (v + 10) hq.1 (big_w hk (by have := hq.1.2; omega))
  rw [show (σ v, true).1 = σ v from rfl, e2, obs, h2 (fun hm => by have := hq.2 _ hm; omega), if_neg (by decide), within, hl, wr_i64 (by omega) (by omega), obs, inR_t (by omega), if_neg (by decide), show v + 10 = (((10 + v).toNat : Nat) : Int) by omega, at_lt (show (10 + v).toNat < l.length by omega), obs, if_pos (by simp; omega), Int.toNat_natCast]
theorem MS.set {σ : Int → GTerm} {W : Int → Prop} (hS : Sg σ W) {l : List GTerm} (hM : MS σ W l) {v : Int} (hv : W v) : MS σ W (l.set (10 + v).toNat (σ v)) := by
  have h1 := hS.low _ hv
  refine ⟨by rw [List.length_set]; exact hM.len, fun i hi y hy => ?_, fun w hw => ?_, hM.b.set _ (hS.q _ hv).1⟩
  · rw [List.getElem?_set_ne (by omega)] at hy
    exact hM.fr i hi y hy
  · by_cases c : (10 + v).toNat = (10 + w).toNat
    · have := hS.low _ hw
      have : w = v := by omega
      subst this
      exact ⟨σ w, List.getElem?_set_self (by have := hM.len; omega), .inr rfl⟩
    · rw [List.getElem?_set_ne c]
      exact hM.at10 w hw
/-- What matching gives. -/
structure Mt (σ : Int → GTerm) (W : Int → Prop) (l : List GTerm) (vs : List Int) (p n : Int) (u : GUnifier) : Prop where
  ms : MS σ W u.gList
  bound : ∀ v ∈ vs, u.gList[(10 + v).toNat]? = some (σ v)
  keep : ∀ v, W v → l[(10 + v).toNat]? = some (σ v) → u.gList[(10 + v).toNat]? = some (σ v)
  le : p ≤ u.gPairs ∧ u.gPairs ≤ p + n
  bd : (u.gBound.length : Int) ≤ u.gPairs
theorem match_L2 {k : Nat} {f : GUnifier → GTerm → GTerm → Option (GUnifier × Bool)} {σ : Int → GTerm} {W : Int → Prop} {x y : List GTerm × GTerm} {l : List GTerm} (hl : l.length ≤ 400) (hx : x.2.gKids = l.map sh) (hy : y.2.gKids = l.map (sb σ)) (hW : ∀ z ∈ l, ∀ v ∈ vs z, W v)
    (hf : ∀ a ∈ l, ∀ u : GUnifier, MS σ W u.gList → (u.gBound.length : Int) ≤ u.gPairs → 0 ≤ u.gPairs → u.gPairs + 1 + nT (sb σ a) ≤ 2000 → ∃ u', f u (sh a) (sb σ a) = some (u', true) ∧ Mt σ W u.gList (vs a) u.gPairs (1 + nT (sb σ a)) u') :
    ∀ (m j : Nat) (u : GUnifier), j ≤ l.length → l.length - j < m → MS σ W u.gList → (u.gBound.length : Int) ≤ u.gPairs → 0 ≤ u.gPairs → u.gPairs + nsum nT ((l.map (sb σ)).drop j) ≤ 2000 →
      ∃ u', pimpl_unifier_unify_L2 k f x y m (j : Int) u = some (.done u') ∧ Mt σ W u.gList (vss (l.drop j)) u.gPairs (nsum nT ((l.map (sb σ)).drop j)) u'
  | 0, j, u, h1, h2, h3, h4, h5, h6 => by omega
  | m + 1, j, u, h1, h2, h3, h4, h5, h6 => by
    have hm : l.length ≤ maxLen := by rw [maxLen_eq]; omega
    have lx : x.2.gKids.length = l.length := by rw [hx, List.length_map]
    have ly : y.2.gKids.length = l.length := by rw [hy, List.length_map]
    unfold pimpl_unifier_unify_L2
    by_cases hlt : j < l.length
    · have e6 := ns_drop (l := l.map (sb σ)) (j := j) (by rw [List.length_map]; exact hlt)
      rw [List.getElem_map] at e6
      rw [e6] at h6 ⊢
      rw [if_pos (by rw [lx]; simpa using hlt), at_lt (l := x.2.gKids) (by omega), at_lt (l := y.2.gKids) (by omega), obs, obs]
      have ex : x.2.gKids[j]'(by omega) = sh l[j] := by simp only [hx, List.getElem_map]
      have ey : y.2.gKids[j]'(by omega) = sb σ l[j] := by simp only [hy, List.getElem_map]
      rw [ex, ey]
      obtain ⟨u1, e1, g⟩ := hf _ (List.getElem_mem hlt) u h3 h4 h5 (by omega)
      have hle := g.le
      rw [e1, obs, if_neg (by simp), wr_succ hlt hm]
      obtain ⟨u2, e2, g2⟩ := match_L2 (k := k) hl hx hy hW hf m (j + 1) u1 (by omega) (by omega) g.ms g.bd (by omega) (by omega)
      have hle2 := g2.le
      refine ⟨u2, e2, g2.ms, fun v hv => ?_, fun v hv h => g2.keep v hv (g.keep v hv h), ⟨by omega, by omega⟩, g2.bd⟩
      rw [vss_drop hlt] at hv
      rcases List.mem_append.1 hv with hv | hv
      · exact g2.keep v (hW _ (List.getElem_mem hlt) v hv) (g.bound v hv)
      · exact g2.bound v hv
    · rw [if_neg (by rw [lx]; simpa using hlt)]
      refine ⟨u, rfl, h3, fun v hv => ?_, fun v _ h => h, ⟨Int.le_refl _, by omega⟩, h4⟩
      rw [List.drop_of_length_le (by omega)] at hv
      cases hv
theorem unifyM {σ : Int → GTerm} {W : Int → Prop} (hS : Sg σ W) : ∀ (k : Nat) (u : GUnifier) (x : GTerm) (d : Int), MS σ W u.gList → (u.gBound.length : Int) ≤ u.gPairs → 0 ≤ u.gPairs → u.gPairs + 1 + nT (sb σ x) ≤ 2000 → (∀ v ∈ vs x, W v) → Low x → BigT x → BigT (sb σ x) → gT d x = true → gT d (sb σ x) = true → maxLen + 1000000 + 2 * nT x + 2 * nT (sb σ x) + 2 < k →
    ∃ u', pimpl_unifier_unify k u (sh x) (sb σ x) = some (u', true) ∧ Mt σ W u.gList (vs x) u.gPairs (1 + nT (sb σ x)) u'
  | 0, u, x, d, hM, hb, h0, hp, hW, hx, hB, hB2, hg, hg2, hk => absurd hk (Nat.not_lt_zero _)
  | k + 1, u, x, d, hM, hb, h0, hp, hW, hx, hB, hB2, hg, hg2, hk => by
    obtain ⟨A, hA⟩ : ∃ A, A = maxLen + 1000000 := ⟨_, rfl⟩
    rw [← hA] at hk
    have hk1 : maxLen + 1000000 < k := by rw [← hA]; omega
    have hk0 : maxLen < k := kk1 hk1
    have hw : wr.i64 (u.gPairs + 1) = u.gPairs + 1 := wr_i64 (by omega) (by omega)
    have hl := hM.len
    have hn := nT_kids (sb σ x)
    by_cases c : x.gKind = 1
    · have hv : W x.gNum := hW _ (vs_mem.2 (.inl ⟨c, rfl⟩))
      have h1 := hS.low _ hv
      have hq := hS.q _ hv
      rw [sb_var c] at hp hg2 hB2 hk ⊢
      have ck : (sh x).gKind = 1 := by rw [sh_eq, mk_gKind]; exact c
      have cn : (sh x).gNum = x.gNum + 10 := by rw [sh_eq, mk_gNum, if_pos c]
      have cv : vs x = [x.gNum] := by
        rw [vs_eq, if_pos c, (one_var2 (gT_one hg).2.1 c).2, vss]
        rfl
      obtain ⟨y, hy, h⟩ := hM.at10 _ hv
      by_cases hy0 : y.gKind = 0
      · have e1 : wk 5000 u.gList (sh x) = sh x := wk_free (fun i hi z hz => by
          have : i = (10 + x.gNum).toNat := by omega
          subst this
          rw [hy] at hz
          cases hz
          exact hy0)
        have e2 : wk 5000 u.gList (σ x.gNum) = σ x.gNum := wk_low hM.fr hq.2
        have e3 := bindM hk1 hS hM (bd := u.gBound) (p := u.gPairs + 1) hv (by omega)
        refine ⟨.mk (u.gList.set (10 + x.gNum).toNat (σ x.gNum)) (u.gBound ++ [x.gNum + 10]) (u.gPairs + 1), ?_, hM.set hS hv, ?_, ?_, ⟨by show u.gPairs ≤ u.gPairs + 1; omega, by show u.gPairs + 1 ≤ u.gPairs + (1 + nT (σ x.gNum)); omega⟩, ?_⟩
        · unfold pimpl_unifier_unify
          rw [hw, if_neg (by simp; omega), (walk4 hk0 (l := u.gList) (by omega) (sh x)).2.2.2, e1, obs, show (u.gList, sh x).1 = u.gList from rfl, (walk4 hk0 (l := u.gList) (by omega) (σ x.gNum)).2.2.2, e2, obs, if_pos (by simpa using ck)]
          unfold pimpl_unifier_unify_J1
          by_cases c2 : (σ x.gNum).gKind = 1
          · have hlow := hq.2 (σ x.gNum).gNum (vs_mem.2 (.inl ⟨c2, rfl⟩))
            rw [if_pos (by simpa using c2), if_neg (by simp; omega), if_neg (by simp; omega), hw, show (u.gList, sh x).2.gNum = x.gNum + 10 from cn, e3]
            rfl
          · rw [if_neg (by simpa using c2), if_pos (by simpa using ck), hw, show (u.gList, sh x).2.gNum = x.gNum + 10 from cn, e3]
            rfl
        · intro v hv'
          rw [cv] at hv'
          rw [List.mem_singleton.1 hv']
          exact List.getElem?_set_self (by omega)
        · intro v hv' h
          show (u.gList.set (10 + x.gNum).toNat (σ x.gNum))[(10 + v).toNat]? = _
          by_cases cc : (10 + x.gNum).toNat = (10 + v).toNat
          · have := hS.low _ hv'
            have : v = x.gNum := by omega
            subst this
            exact List.getElem?_set_self (by omega)
          · rw [List.getElem?_set_ne cc]
            exact h
        · show ((u.gBound ++ [x.gNum + 10]).length : Int) ≤ u.gPairs + 1
          simp
          omega
      · have hyσ : y = σ x.gNum := h.resolve_left hy0
        subst hyσ
        have e2 : wk 5000 u.gList (σ x.gNum) = σ x.gNum := wk_low hM.fr hq.2
        have e1 : wk 5000 u.gList (sh x) = σ x.gNum := wk_bound hM.fr ck cn h1.1 (by omega) hy hy0 hq.2
        have e3 := unifySelf hl hM.fr (bd := u.gBound) (k + 1) (σ x.gNum) 1 u.gPairs hq.2 hq.1 (hS.g _ hv) h0 hp (by
          have := big_w (k := k + 1) (x := σ x.gNum) (Nat.lt_succ_of_lt hk1) (by have := hq.1.2; omega)
          exact this)
        refine ⟨_, (unify_congr hk0 hl (e1.trans e2.symm) rfl).trans e3, hM, ?_, fun v _ h => h, ⟨by show u.gPairs ≤ u.gPairs + 1 + nT (σ x.gNum); omega, by show u.gPairs + 1 + nT (σ x.gNum) ≤ u.gPairs + (1 + nT (σ x.gNum)); omega⟩, by show (u.gBound.length : Int) ≤ u.gPairs + 1 + nT (σ x.gNum); omega⟩
        intro v hv'
        rw [cv] at hv'
        rw [List.mem_singleton.1 hv']
        exact hy
    · have ck : (sh x).gKind = x.gKind := by rw [sh_eq, mk_gKind]
      have cs := sb_not (σ := σ) c
      have ck2 : (sb σ x).gKind = x.gKind := by rw [cs, mk_gKind]
      have e1 : wk 5000 u.gList (sh x) = sh x := wk_not (by rw [ck]; exact c)
      have e2 : wk 5000 u.gList (sb σ x) = sb σ x := wk_not (by rw [ck2]; exact c)
      unfold pimpl_unifier_unify
      rw [hw, if_neg (by simp; omega), (walk4 hk0 (l := u.gList) (by omega) (sh x)).2.2.2, e1, obs, show (u.gList, sh x).1 = u.gList from rfl, (walk4 hk0 (l := u.gList) (by omega) (sb σ x)).2.2.2, e2, obs, if_neg (by rw [show (u.gList, sh x).2 = sh x from rfl, ck]; simpa using c)]
      unfold pimpl_unifier_unify_J1
      simp only []
      have kx : (sh x).gKids = x.gKids.map sh := by rw [sh_eq, mk_gKids]
      have ky : (sb σ x).gKids = x.gKids.map (sb σ) := by rw [cs, mk_gKids]
      have nx : (sh x).gName = (sb σ x).gName := by rw [sh_eq, cs, mk_gName, mk_gName]
      have mx : (sh x).gNum = (sb σ x).gNum := by rw [sh_eq, cs, mk_gNum, mk_gNum, if_neg c]
      have hlen := big_kids hB
      rw [if_neg (by decide), if_neg (by rw [ck]; simpa using c), if_neg (by rw [ck2]; simpa using c), if_neg (by rw [ck, ck2]; simp), if_neg (by rw [nx]; simp [sEq_refl]), if_neg (by rw [mx]; simp), if_neg (by rw [kx, ky]; simp), hw]
      rw [ky] at hn
      obtain ⟨u', e3, g⟩ := match_L2 (k := k) (f := pimpl_unifier_unify k) (σ := σ) (W := W) (x := (u.gList, sh x)) (y := (u.gList, sb σ x)) (l := x.gKids) hlen kx ky (fun z hz v hv => hW v (vs_mem.2 (.inr ⟨z, hz, hv⟩)))
        (fun a ha v q1 q2 q3 q4 => unifyM hS k v a (d + 1) q1 q2 q3 q4 (fun v hv => hW v (vs_mem.2 (.inr ⟨a, ha, hv⟩))) (hx.kid ha) (big_kid hB ha) (big_kid hB2 (by rw [ky]; exact List.mem_map.2 ⟨a, ha, rfl⟩)) (gT_kid hg ha) (gT_kid hg2 (by rw [ky]; exact List.mem_map.2 ⟨a, ha, rfl⟩)) (by
          have t1 := kid_lt (x := x) ha
          have t2 := kid_lt (x := sb σ x) (y := sb σ a) (by rw [ky]; exact List.mem_map.2 ⟨a, ha, rfl⟩)
          rw [← hA]
          omega)) k 0 (.mk u.gList u.gBound (u.gPairs + 1)) (Nat.zero_le _) (by have hM := maxLen_eq; omega) hM (by show (u.gBound.length : Int) ≤ u.gPairs + 1; omega) (by show 0 ≤ u.gPairs + 1; omega) (by rw [List.drop_zero]; show u.gPairs + 1 + (nsum nT (x.gKids.map (sb σ)) : Int) ≤ 2000; omega)
      rw [show ((0 : Nat) : Int) = 0 from rfl] at e3
      rw [List.drop_zero, List.drop_zero] at g
      rw [e3]
      have hle := g.le
      have hle : u.gPairs + 1 ≤ u'.gPairs ∧ u'.gPairs ≤ u.gPairs + 1 + nsum nT (x.gKids.map (sb σ)) := hle
      refine ⟨u', rfl, g.ms, fun v hv => ?_, g.keep, ⟨by omega, by omega⟩, g.bd⟩
      rw [vs_eq, if_neg c] at hv
      exact g.bound v hv
theorem dFilled : @pspec_l04Filled_d = @pspec_l04Filled := by kernel_rfl
theorem filled {k : Nat} (hk : maxLen + 1000000 < k) {l : List GTerm} (hl : l.length ≤ 1048576) (ha : AllB l) {x : GTerm} (hx : BigT x) : ∃ y b, pspec_l04Filled_d k l x = some (y, b) ∧ (b = true → y.ok ∧ nT y ≤ 400) := by
  rw [dFilled, filledS hk hl ha hx]
  exact ⟨_, _, rfl, fun _ => fP_big ha hx⟩
theorem walk3 {k : Nat} (hk : maxLen < k) {l : List GTerm} (hl : l.length ≤ 1048576) {Q : GTerm → Prop} (hQ : ∀ z ∈ l, Q z) {x : GTerm} (hx : Q x) :
    ∃ y, Q y ∧ pspec_l04Walk k l x = some y ∧ pimpl_walked k l x = some y ∧ pspec_l04Walk_i k l x = some (l, y) := by
  obtain ⟨h1, h2, h3, _⟩ := walk4 hk hl x
  exact ⟨_, wk_in hQ 5000 x hx, h1, h2, h3⟩
theorem varsOf {k : Nat} (hk : maxLen + 1000000 < k) {x : GTerm} (hx : nT x ≤ 400) : ∃ l, pspec_VarsOf k x = some l ∧ l.length ≤ 1000 := by
  unfold pspec_VarsOf
  have hM := maxLen_eq
  have h1 : maxLen + 2 * nT x + 2 < k := by
    have : 2 * nT x + 2 ≤ 1000000 := by omega
    omega
  rw [l03Vars k x h1 (by omega) [] (by simp; omega)]
  refine ⟨_, rfl, ?_⟩
  have := uniq_len (vs x) []
  have := vs_len x
  simp at *
  omega
theorem link {k : Nat} {u : GL04Uni} {n : Int} {x : GTerm} (hl : u.gList.length ≤ 1048576) (ha : AllB u.gList) (hx : BigT x) :
    ∃ u' b, pspec_l04Uni_link k u n x = some (u', b) ∧ u'.gList.length = u.gList.length ∧ AllB u'.gList ∧ u'.gPairs = u.gPairs := by
  unfold pspec_l04Uni_link
  rw [l01In, wr_i64 (by omega) (by omega)]
  simp only [obs]
  by_cases h : 0 ≤ n ∧ n ≤ (u.gList.length : Int) - 1
  · rw [inR_t h, if_neg (by decide)]
    obtain ⟨i, rfl⟩ := Int.eq_ofNat_of_zero_le h.1
    have hi : i < u.gList.length := by omega
    rw [at_lt hi]
    simp only [obs]
    exact ⟨_, _, rfl, by simp, ha.set _ hx, rfl⟩
  · rw [inR_f h, if_pos (by decide)]
    exact ⟨_, _, rfl, rfl, ha, rfl⟩
theorem bind_ {k : Nat} (hk : maxLen + 1000000 < k) {u : GL04Uni} {n : Int} {x : GTerm} (hl : u.gList.length ≤ 1048576) (ha : AllB u.gList) (hx : BigT x) :
    ∃ u' b, pspec_l04Uni_bind k u n x = some (u', b) ∧ u'.gList.length = u.gList.length ∧ AllB u'.gList ∧ u'.gPairs = u.gPairs := by
  unfold pspec_l04Uni_bind
  obtain ⟨y, b, e1, e2⟩ := filled hk hl ha hx
  rw [e1]
  simp only [obs]
  cases b with
  | false => rw [if_pos (by decide)]; exact ⟨_, _, rfl, rfl, ha, rfl⟩
  | true =>
    rw [if_neg (by decide)]
    obtain ⟨hy, hn⟩ := e2 rfl
    rw [l01In, wr_i64 (by omega) (by omega)]
    simp only [obs]
    by_cases h : 0 ≤ n ∧ n ≤ (u.gList.length : Int) - 1
    · rw [inR_t h, if_neg (by decide)]
      obtain ⟨l, e3, e4⟩ := varsOf hk hn
      rw [e3]
      simp only [obs]
      have hM := maxLen_eq
      rw [l03Has n (by omega) (Nat.lt_of_le_of_lt (Nat.le_add_right _ _) hk)]
      simp only [obs]
      split
      · exact ⟨_, _, rfl, rfl, ha, rfl⟩
      · obtain ⟨i, rfl⟩ := Int.eq_ofNat_of_zero_le h.1
        have hi : i < u.gList.length := by omega
        rw [at_lt hi]
        simp only [obs]
        exact ⟨_, _, rfl, by simp, ha.set _ hx, rfl⟩
    · rw [inR_f h, if_pos (by decide)]
      exact ⟨_, _, rfl, rfl, ha, rfl⟩
/-- What comes of making two terms the same. -/
def Did0 (n : Nat) (p : Int) (r : Option (GL04Uni × Bool)) : Prop := ∃ u b, r = some (u, b) ∧ u.gList.length = n ∧ AllB u.gList ∧ p ≤ u.gPairs ∧ u.gPairs ≤ 2001 ∧ (b = true → u.gPairs ≤ 2000)
theorem same_L2 {k : Nat} {f : GL04Uni → GTerm → GTerm → Option (GL04Uni × Bool)} {x y : List GTerm × GTerm} {n : Nat} {p : Int} (hx : BigT x.2) (hy : BigT y.2) (hxy : x.2.gKids.length = y.2.gKids.length)
    (hf : ∀ (u : GL04Uni) (a b : GTerm), BigT a → BigT b → u.gList.length = n → AllB u.gList → p ≤ u.gPairs → u.gPairs ≤ 2000 → Did0 n p (f u a b)) :
    ∀ (m j : Nat) (u : GL04Uni), j ≤ x.2.gKids.length → x.2.gKids.length - j < m → u.gList.length = n → AllB u.gList → p ≤ u.gPairs → u.gPairs ≤ 2000 →
      (∃ u', pspec_l04Uni_same_L2 k f x y m (j : Int) u = some (.done u') ∧ u'.gList.length = n ∧ AllB u'.gList ∧ p ≤ u'.gPairs ∧ u'.gPairs ≤ 2000) ∨
      (∃ r, pspec_l04Uni_same_L2 k f x y m (j : Int) u = some (.ret r) ∧ r.1.gList.length = n ∧ AllB r.1.gList ∧ p ≤ r.1.gPairs ∧ r.1.gPairs ≤ 2001 ∧ r.2 = false)
  | 0, j, u, h1, h2, h3, h4, h5, h6 => by omega
  | m + 1, j, u, h1, h2, h3, h4, h5, h6 => by
    have hm : x.2.gKids.length ≤ maxLen := by have := big_kids hx; rw [maxLen_eq]; omega
    unfold pspec_l04Uni_same_L2
    by_cases hlt : j < x.2.gKids.length
    · rw [if_pos (by simpa using hlt), at_lt hlt, at_lt (l := y.2.gKids) (by omega)]
      simp only [obs]
      obtain ⟨u', b, e1, g1, g2, g3, g4, g5⟩ := hf u x.2.gKids[j] (y.2.gKids[j]'(by omega)) (big_kid hx (List.getElem_mem hlt)) (big_kid hy (List.getElem_mem (by omega))) h3 h4 h5 h6
      rw [e1]
      simp only [obs]
      cases b with
      | false => rw [if_pos (by decide)]; exact .inr ⟨_, rfl, g1, g2, g3, g4, rfl⟩
      | true =>
        rw [if_neg (by decide), wr_succ hlt hm]
        exact same_L2 hx hy hxy hf m (j + 1) u' (by omega) (by omega) g1 g2 g3 (g5 rfl)
    · rw [if_neg (by simpa using hlt)]
      exact .inl ⟨_, rfl, h3, h4, h5, h6⟩
theorem same : ∀ (k : Nat) (u : GL04Uni) (x y : GTerm), u.gList.length ≤ 1048576 → AllB u.gList → BigT x → BigT y → 0 ≤ u.gPairs → u.gPairs ≤ 2000 → maxLen + 1000000 + (2002 - u.gPairs.toNat) < k →
    Did0 u.gList.length (u.gPairs + 1) (pspec_l04Uni_same k u x y)
  | 0, u, x, y, hl, ha, hx, hy, h0, h1, hk => absurd hk (Nat.not_lt_zero _)
  | k + 1, u, x, y, hl, ha, hx, hy, h0, h1, hk => by
    have hw : wr.i64 (u.gPairs + 1) = u.gPairs + 1 := wr_i64 (by omega) (by omega)
    obtain ⟨A, hA⟩ : ∃ A, A = maxLen + 1000000 := ⟨_, rfl⟩
    rw [← hA] at hk
    have hk1 : maxLen + 1000000 < k := by rw [← hA]; omega
    have hk0 : maxLen < k := Nat.lt_of_le_of_lt (Nat.le_add_right _ _) hk1
    unfold pspec_l04Uni_same
    rw [hw]
    by_cases c1 : u.gPairs + 1 > 2000
    · rw [if_pos (by simpa using c1)]
      exact ⟨_, _, rfl, rfl, ha, Int.le_refl _, (by show u.gPairs + 1 ≤ 2001; omega), fun h => by cases h⟩
    rw [if_neg (by simpa using c1)]
    obtain ⟨x', hx', _, _, e1⟩ := walk3 hk0 hl (Q := BigT) ha hx
    rw [e1]
    simp only [obs]
    obtain ⟨y', hy', _, _, e2⟩ := walk3 hk0 hl (Q := BigT) ha hy
    rw [e2]
    simp only [obs]
    have stay : ∀ b, Did0 u.gList.length (u.gPairs + 1) (some (GL04Uni.mk u.gList (u.gPairs + 1), b)) := fun b =>
      ⟨_, _, rfl, rfl, ha, Int.le_refl _, (by show u.gPairs + 1 ≤ 2001; omega), fun _ => (by show u.gPairs + 1 ≤ 2000; omega)⟩
    have lk : ∀ n z, BigT z → Did0 u.gList.length (u.gPairs + 1) ((pspec_l04Uni_link k (GL04Uni.mk u.gList (u.gPairs + 1)) n z).bind fun r => some (r.1, r.2)) := fun n z hz => by
      obtain ⟨u', b, e, q1, q2, q3⟩ := link (k := k) (u := GL04Uni.mk u.gList (u.gPairs + 1)) (n := n) hl ha hz
      rw [e]
      have q3 : u'.gPairs = u.gPairs + 1 := q3
      exact ⟨u', b, rfl, q1, q2, by omega, by omega, fun _ => by omega⟩
    have bd : ∀ n z, BigT z → Did0 u.gList.length (u.gPairs + 1) ((pspec_l04Uni_bind k (GL04Uni.mk u.gList (u.gPairs + 1)) n z).bind fun r => some (r.1, r.2)) := fun n z hz => by
      obtain ⟨u', b, e, q1, q2, q3⟩ := bind_ (k := k) hk1 (u := GL04Uni.mk u.gList (u.gPairs + 1)) (n := n) hl ha hz
      rw [e]
      have q3 : u'.gPairs = u.gPairs + 1 := q3
      exact ⟨u', b, rfl, q1, q2, by omega, by omega, fun _ => by omega⟩
    have J : ∀ g, Did0 u.gList.length (u.gPairs + 1) (pspec_l04Uni_same_J1 k (pspec_l04Uni_same k) (u.gList, x') (u.gList, y') u g) := fun g => by
      unfold pspec_l04Uni_same_J1
      rw [hw]
      simp only []
      split
      · split
        · exact stay true
        · split
          · exact lk _ _ hy'
          · exact lk _ _ hx'
      · split
        · exact bd _ _ hy'
        · split
          · exact bd _ _ hx'
          · split
            · exact stay false
            · split
              · exact stay false
              · split
                · exact stay false
                · split
                  · exact stay false
                  · rename_i hkids
                    have hxy : x'.gKids.length = y'.gKids.length := by
                      have h : (x'.gKids.length : Int) = y'.gKids.length := by simpa using hkids
                      omega
                    have hkk := big_kids hx'
                    rcases same_L2 (k := k) (f := pspec_l04Uni_same k) (x := (u.gList, x')) (y := (u.gList, y')) (n := u.gList.length) (p := u.gPairs + 1) hx' hy' hxy (fun v a b qa qb v1 v2 v3 v4 => by
                      obtain ⟨u2, b2, e, q1, q2, q3, q4, q5⟩ := same k v a b (by omega) v2 qa qb (by omega) v4 (by rw [← hA]; omega)
                      exact ⟨u2, b2, e, by omega, q2, by omega, q4, q5⟩) k 0 (GL04Uni.mk u.gList (u.gPairs + 1)) (Nat.zero_le _) (by have hM := maxLen_eq; show x'.gKids.length - 0 < k; omega) rfl ha (Int.le_refl _) (by show u.gPairs + 1 ≤ 2000; omega) with ⟨u', e, q1, q2, q3, q4⟩ | ⟨r, e, q1, q2, q3, q4, q5⟩
                    · rw [show ((0 : Nat) : Int) = 0 from rfl] at e
                      rw [e]
                      exact ⟨_, _, rfl, q1, q2, q3, by omega, fun _ => q4⟩
                    · rw [show ((0 : Nat) : Int) = 0 from rfl] at e
                      rw [e]
                      exact ⟨r.1, r.2, rfl, q1, q2, q3, q4, fun h => by rw [q5] at h; cases h⟩
    split
    · exact J _
    · exact J _
theorem unifyS {k : Nat} (hk : maxLen + 1100000 < k) {l : List GTerm} (hl : l.length ≤ 1000) (ha : AllB l) {x y : GTerm} (hx : BigT x) (hy : BigT y) : ∃ l' b, pspec_l04Unify k l x y = some (l', b) ∧ l'.length = l.length ∧ AllB l' := by
  unfold pspec_l04Unify
  obtain ⟨u, b, e, q1, q2, _⟩ := same k (GL04Uni.mk l 0) x y (by show l.length ≤ 1048576; omega) ha hx hy (Int.le_refl _) (by show (0 : Int) ≤ 2000; omega) (by
    show maxLen + 1000000 + (2002 - (0 : Int).toNat) < k
    refine Nat.lt_of_le_of_lt ?_ hk
    rw [Nat.add_assoc]
    exact Nat.add_le_add_left (by decide) _)
  rw [e]
  exact ⟨_, _, rfl, q1, q2⟩
theorem unifyRaw {k : Nat} (hk : maxLen + 1100000 < k) {b : GBinds} (hl : b.gList.length ≤ 1000) (ha : AllB b.gList) {x y : GTerm} (hx : BigT x) (hy : BigT y) :
    ∃ c g, pspec_l04UnifyRaw k b x y = some (c, g) ∧ c.gList.length = b.gList.length ∧ AllB c.gList := by
  have hM := maxLen_eq
  have J : ∀ g (c : GBinds), c.gList.length = b.gList.length → AllB c.gList → ∃ c' g', pspec_l04UnifyRaw_J1 k b g c = some (c', g') ∧ c'.gList.length = b.gList.length ∧ AllB c'.gList := by
    intro g c h1 h2
    unfold pspec_l04UnifyRaw_J1
    split
    · rw [if_pos (by simp; omega)]; exact ⟨_, _, rfl, rfl, ha⟩
    · exact ⟨_, _, rfl, h1, h2⟩
  have w : ∀ {z : GTerm}, BigT z → maxLen + 2 * nT z + 2 < k := fun {z} h => by
    have h2 := h.2
    have : 2 * nT z + 2 ≤ 1100000 := by omega
    omega
  unfold pspec_l04UnifyRaw
  rw [if_pos (by simp; omega), spec_TermOk (w hx) hx.1, spec_TermOk (w hy) hy.1]
  simp only [obs]
  split
  · exact J _ _ rfl ha
  · split
    · exact J _ _ rfl ha
    · obtain ⟨l', g, e, q1, q2⟩ := unifyS hk hl ha hx hy
      rw [e]
      simp only [obs]
      exact J _ _ q1 q2
theorem nsum_bound {l : List GTerm} (h : AllB l) : nsum nT l ≤ 401 * l.length := by
  induction l with
  | nil => simp [nsum]
  | cons x l ih =>
    have h1 := (h x (List.mem_cons_self ..)).2
    have h2 := ih (fun z hz => h z (List.mem_cons_of_mem _ hz))
    simp only [nsum, List.length_cons]
    omega
theorem dBinds : @pspec_l34Binds_d = @pspec_l34Binds := by kernel_rfl
theorem dNew : @pspec_BindsNew_d = @pspec_BindsNew := by kernel_rfl
theorem dAny : @pspec_l03Any_d = @pspec_l03Any := by kernel_rfl
theorem unifyD {k : Nat} (hk : maxLen + 1100000 < k) {b : GBinds} (hl : b.gList.length ≤ 1000) (ha : AllB b.gList) {x y : GTerm} (hx : BigT x) (hy : BigT y) :
    ∃ c g, pspec_Unify_d k b x y = some (c, g) ∧ c.gList.length = b.gList.length ∧ AllB c.gList := by
  have hM := maxLen_eq
  obtain ⟨c, g, e, q1, q2⟩ := unifyRaw hk hl ha hx hy
  unfold pspec_Unify_d
  rw [e, dBinds]
  simp only [obs]
  unfold pspec_l34Binds
  have hn := nsum_bound q2
  have hn2 : nsum nT c.gList ≤ 401000 := by omega
  rw [l34Terms (by
    have : 2 * nsum nT c.gList + 2 ≤ 1100000 := by omega
    omega) (by omega)]
  exact ⟨_, _, rfl, q1, q2⟩
theorem new4 {k : Nat} : ∃ b, pspec_BindsNew_d k 4 = some b ∧ b.gList.length = 4 ∧ AllB b.gList := by
  rw [dNew]
  unfold pspec_BindsNew pspec_BindsNew_J1
  rw [if_neg (by decide), if_neg (by decide), if_pos (by decide)]
  refine ⟨_, rfl, by simp, fun z hz => ?_⟩
  rw [List.eq_of_mem_replicate hz]
  refine ⟨ok_mk (by omega) (by decide) (by omega) (by simp) (fun x hx => by cases hx), ?_⟩
  rw [nT_kids, mk_gKids]
  simp [nsum]
theorem binds_L1 {k : Nat} (hk : maxLen + 1100000 < k) (hk2 : 1000000 < k - maxLen) : ∀ (m j : Nat) (b : GBinds) (c : GL01Cur), j ≤ 4 → 4 - j < m → CurOk c → b.gList.length = 4 → AllB b.gList →
    ∃ b' c', pspec_l04Binds_d_L1 k m (j : Int) b c = some (.done (b', c')) ∧ CurOk c' ∧ b'.gList.length = 4 ∧ AllB b'.gList
  | 0, j, b, c, h1, h2, h3, h4, h5 => by omega
  | m + 1, j, b, c, h1, h2, h3, h4, h5 => by
    unfold pspec_l04Binds_d_L1
    obtain ⟨c1, v, e1, g1, g2, g3, _⟩ := l01Below h3 k 4
    rw [e1]
    simp only [obs]
    have := g3 (by decide)
    by_cases q : (j : Int) < v
    · rw [if_pos (by simpa using q)]
      obtain ⟨c2, x, e2, g4, g5⟩ := l03Term g1 hk2
      rw [e2]
      simp only [obs]
      obtain ⟨c3, y, e3, g6, g7⟩ := l03Term g4 hk2
      rw [e3]
      simp only [obs]
      obtain ⟨b', g, e4, q1, q2⟩ := unifyD hk (b := b) (by omega) h5 g5.any.big g7.any.big
      rw [e4]
      simp only [obs]
      rw [show wr.i64 ((j : Int) + 1) = ((j + 1 : Nat) : Int) by rw [wr_i64 (by omega) (by omega)]; omega]
      exact binds_L1 hk hk2 m (j + 1) b' c3 (by omega) (by omega) g6 (by omega) q2
    · rw [if_neg (by simpa using q)]
      exact ⟨_, _, rfl, g1, h4, h5⟩
theorem binds {k : Nat} (hk : maxLen + 1100000 < k) (hk2 : 1000000 < k - maxLen) {c : GL01Cur} (hc : CurOk c) : ∃ c' b, pspec_l04Binds_d k c = some (c', b) ∧ CurOk c' ∧ b.gList.length = 4 ∧ AllB b.gList := by
  unfold pspec_l04Binds_d
  obtain ⟨b0, e0, h1, h2⟩ := new4 (k := k)
  rw [e0]
  simp only [obs]
  obtain ⟨b, c', e1, g1, g2, g3⟩ := binds_L1 hk hk2 k 0 b0 c (by omega) (by omega) hc h1 h2
  rw [show ((0 : Nat) : Int) = 0 from rfl] at e1
  rw [e1]
  exact ⟨_, _, rfl, g1, g2, g3⟩
theorem var_big {n : Int} (h : 0 ≤ n ∧ n ≤ 1000) : BigT (.mk 1 (bs []) n []) := ⟨ok_mk (by omega) (by decide) (by omega) (by simp) (fun x hx => by cases hx), by
  rw [nT_kids, mk_gKids]
  simp [nsum]⟩
theorem any4 {k : Nat} (hk : maxLen + 1100000 < k) (hk2 : 1000000 < k - maxLen) {c : GL01Cur} (hc : CurOk c) : ∃ c' b, pspec_l04Any k c = some (c', b) ∧ b.gList.length ≤ 4 ∧ AllB b.gList := by
  unfold pspec_l04Any
  obtain ⟨c1, v, e1, g1, _⟩ := l01Below hc k 10
  rw [e1]
  simp only [obs]
  obtain ⟨c2, b, e2, g2, g3, g4⟩ := binds hk hk2 g1
  rw [e2]
  simp only [obs]
  split
  · unfold pspec_l03Var_d
    simp only [obs]
    rw [show (0 : Int) = ((0 : Nat) : Int) from rfl, at_lt (by omega)]
    simp only [obs]
    rw [show (1 : Int) = ((1 : Nat) : Int) from rfl, at_lt (by simp; omega)]
    simp only [obs]
    exact ⟨_, _, rfl, by simp; omega, (g4.set _ (var_big (by omega))).set _ (var_big (by omega))⟩
  · split
    · rw [dAny]
      obtain ⟨c3, t, e3, g5, g6⟩ := l03Any g2 hk2
      rw [e3]
      simp only [obs]
      rw [show (2 : Int) = ((2 : Nat) : Int) from rfl, at_lt (by omega)]
      simp only [obs]
      exact ⟨_, _, rfl, by simp; omega, g4.set _ g6.big⟩
    · split
      · rw [if_pos (by omega)]
        exact ⟨_, _, rfl, by simp; omega, fun z hz => g4 z (List.mem_of_mem_take hz)⟩
      · exact ⟨_, _, rfl, by omega, g4⟩
theorem z0_get {i : Nat} (h : i < 20) : E20[i]? = some Z0 := by
  unfold E20
  rw [List.getElem?_replicate, if_pos h]
theorem e20_ms {σ : Int → GTerm} {W : Int → Prop} (hS : Sg σ W) : MS σ W E20 := by
  refine ⟨rfl, fun i hi y hy => ?_, fun v hv => ⟨Z0, z0_get (by have := hS.low v hv; omega), .inl rfl⟩, e20_q.b⟩
  rw [z0_get (by omega)] at hy
  cases hy
  rfl
theorem right_tOk {x : GTerm} (h : gT 1 x = true) (hn : nT x ≤ 399) : tOk x = true := by
  unfold tOk
  rw [h, decide_eq_true (by omega)]
  rfl
theorem matchAll {k : Nat} (hk : maxLen + 1100000 < k) {σ : Int → GTerm} {W : Int → Prop} (hS : Sg σ W) {x : GTerm} (hx : Low x) (hg : gT 1 x = true) (hn : nT x ≤ 399) (hW : ∀ v ∈ vs x, W v) (hg2 : gT 1 (sb σ x) = true) (hn2 : nT (sb σ x) ≤ 399) :
    ∃ b, pimpl_Unify_d k (.mk E20) (sh x) (sb σ x) = some (b, true) ∧ b.gList.length = 20 ∧ AllB b.gList ∧ fP b.gList (sh x) = (sb σ x, true) := by
  have hk1 : maxLen + 1000000 < k := Nat.lt_of_le_of_lt (Nat.add_le_add_left (by decide) _) hk
  obtain ⟨q1, q2⟩ := sh_big hg hx hn
  have b2 : BigT (sb σ x) := ⟨gT_ok _ _ hg2, by omega⟩
  obtain ⟨u, e, g⟩ := unifyM hS k (.mk E20 [] 0) x 1 (e20_ms hS) (Int.le_refl _) (Int.le_refl _) (by show (0 : Int) + 1 + nT (sb σ x) ≤ 2000; omega) hW hx ⟨gT_ok _ _ hg, by omega⟩ b2 hg hg2 (by
    refine Nat.lt_of_le_of_lt ?_ hk
    rw [Nat.add_assoc, Nat.add_assoc, Nat.add_assoc]
    exact Nat.add_le_add_left (by omega) _)
  have hl := g.ms.len
  refine ⟨.mk u.gList, ?_, hl, g.ms.b, ?_⟩
  · unfold pimpl_Unify_d
    rw [copyTerms hk1 (by decide) e20_q.b, obs, impl_TermOk (big_w hk1 (by have := q1.2; omega)) q1.1, obs, q2, if_neg (by decide), impl_TermOk (big_w hk1 (by omega)) b2.1, obs, right_tOk hg2 hn2, if_neg (by decide), e, obs]
    unfold pimpl_Unify_d_J1
    rw [if_neg (by simp), copyTerms hk1 (by omega) g.ms.b, obs]
  · unfold fP
    rw [fillSh hS g.ms 40 (fun v hv => ⟨hW v hv, g.bound v hv⟩) hg2 (by omega)]
    simp only
    rw [if_pos hg2]
/-- The variables stand for themselves. -/
def idσ (v : Int) : GTerm := .mk 1 (bs []) v []
theorem var_eta {x : GTerm} (h : one x = true) (hk : x.gKind = 1) : x = idσ x.gNum := by
  obtain ⟨h1, h2⟩ := one_var2 h hk
  unfold idσ
  rw [← h1, ← h2, ← hk, mk_eta]
theorem sb_id {x : GTerm} {d : Int} (h : gT d x = true) : sb idσ x = x := by
  by_cases c : x.gKind = 1
  · rw [sb_var c]
    exact (var_eta (gT_one h).2.1 c).symm
  · rw [sb_not c]
    have : x.gKids.map (sb idσ) = x.gKids := by
      conv => rhs; rw [← List.map_id x.gKids]
      exact List.map_congr_left (fun y hy => sb_id (gT_kid h hy))
    rw [this, mk_eta]
termination_by nT x
decreasing_by exact kid_lt hy
theorem id_sg {x : GTerm} (hx : Low x) : Sg idσ (fun v => v ∈ vs x) := by
  have hn : ∀ v, nT (idσ v) = 0 := fun v => by rw [nT_kids]; rfl
  have hg : ∀ v, v ∈ vs x → gT 1 (idσ v) = true := fun v hv => by
    have := hx v hv
    rw [gT_eq]
    unfold idσ
    rw [one_var (by omega), mk_gKids, gTs]
    rfl
  refine ⟨hx, fun v hv => ⟨⟨gT_ok _ _ (hg v hv), by rw [hn]; omega⟩, fun w hw => ?_⟩, hg, fun v hv => by rw [hn]; omega⟩
  rcases vs_mem.1 hw with ⟨_, e⟩ | ⟨y, hy, _⟩
  · rw [e]
    exact hx v hv
  · cases hy
theorem fillsP_mono {F G : GTerm → Int → Int × GTerm × Bool} : ∀ {xs : List GTerm} {b b1 b2 : Int} {o : List GTerm}, fillP.fillsP F xs b = (b1, o, true) → (nsum nT o : Int) ≤ b2 → (∀ z ∈ xs, ∀ b b1 b2 y, F z b = (b1, y, true) → (1 + nT y : Int) ≤ b2 → G z b2 = (b2 - (1 + nT y), y, true)) →
    fillP.fillsP G xs b2 = (b2 - nsum nT o, o, true)
  | [], b, b1, b2, o, h, hb, hF => by
    rw [fillP.fillsP] at h
    cases h
    simp [fillP.fillsP, nsum]
  | x :: xs, b, b1, b2, o, h, hb, hF => by
    rw [fillP.fillsP] at h
    rcases e : F x b with ⟨c1, y, t⟩
    rw [e] at h
    cases t with
    | false => cases h
    | true =>
      simp only at h
      rcases e2 : fillP.fillsP F xs c1 with ⟨c2, ys, t⟩
      rw [e2] at h
      cases h
      have hb : ((nsum nT (y :: ys) : Nat) : Int) ≤ b2 := hb
      rw [nsum] at hb
      rw [fillP.fillsP, hF x (List.mem_cons_self ..) b c1 b2 y e (by omega)]
      simp only
      rw [fillsP_mono e2 (by omega) (fun z hz => hF z (List.mem_cons_of_mem _ hz))]
      simp only [Prod.mk.injEq, and_true]
      show b2 - (1 + (nT y : Int)) - (nsum nT ys : Int) = b2 - ((nsum nT (y :: ys) : Nat) : Int)
      rw [nsum]
      omega
theorem fill_mono {l : List GTerm} : ∀ (n m : Nat) {x : GTerm} {b b1 b2 : Int} {o : GTerm}, fillP l n x b = (b1, o, true) → n ≤ m → (1 + nT o : Int) ≤ b2 → fillP l m x b2 = (b2 - (1 + nT o), o, true)
  | 0, m, x, b, b1, b2, o, h, hm, hb => by rw [fillP] at h; cases h
  | n + 1, 0, x, b, b1, b2, o, h, hm, hb => by omega
  | n + 1, m + 1, x, b, b1, b2, o, h, hm, hb => by
    rw [fillP] at h
    split at h
    · cases h
    · split at h
      · rename_i c1 ys e
        cases h
        have hn : nT (.mk (wk 5000 l x).gKind (wk 5000 l x).gName (wk 5000 l x).gNum ys) = nsum nT ys := by rw [nT_kids, mk_gKids]
        rw [hn] at hb ⊢
        rw [fillP, if_neg (by omega), fillsP_mono (b2 := b2 - 1) e (by omega) (fun z hz b b1 b2 y h hb => fill_mono n m h (by omega) hb)]
        simp only [Prod.mk.injEq, and_true]
        omega
      · cases h
/-- What the variables are filled to. -/
def fσ (l : List GTerm) (v : Int) : GTerm := (fillP l 40 (idσ v) 400).2.1
theorem fill_sb {l : List GTerm} : ∀ (n : Nat) {x : GTerm} {d b b1 : Int} {o : GTerm}, fillP l n x b = (b1, o, true) → n ≤ 40 → b ≤ 400 → gT d x = true → o = sb (fσ l) x
  | 0, x, d, b, b1, o, h, hn, hb, hg => by rw [fillP] at h; cases h
  | n + 1, x, d, b, b1, o, h, hn, hb, hg => by
    by_cases c : x.gKind = 1
    · rw [sb_var c]
      obtain ⟨h1, h2⟩ := fillP_le _ h
      have e := fill_mono (n + 1) 40 (b2 := 400) h hn (by omega)
      rw [var_eta (gT_one hg).2.1 c] at e
      unfold fσ
      rw [e]
    · rw [sb_not c]
      rw [fillP, wk_not c] at h
      split at h
      · cases h
      · split at h
        · rename_i c1 ys e
          cases h
          have key : ∀ (xs : List GTerm) (b b1 : Int) (ys : List GTerm), (∀ z ∈ xs, gT (d + 1) z = true) → b ≤ 400 → fillP.fillsP (fun y b => fillP l n y b) xs b = (b1, ys, true) → ys = xs.map (sb (fσ l)) := by
            intro xs
            induction xs with
            | nil => intro b b1 ys hq hb h; rw [fillP.fillsP] at h; cases h; rfl
            | cons z xs ih =>
              intro b b1 ys hq hb h
              rw [fillP.fillsP] at h
              rcases e : fillP l n z b with ⟨c1, y, t⟩
              simp only [e] at h
              cases t with
              | false => cases h
              | true =>
                simp only at h
                rcases e2 : fillP.fillsP (fun y b => fillP l n y b) xs c1 with ⟨c2, zs, t⟩
                rw [e2] at h
                cases h
                obtain ⟨q1, q2⟩ := fillP_le _ e
                have i1 := fill_sb n e (by omega) hb (hq z (List.mem_cons_self ..))
                have i2 := ih c1 c2 zs (fun w hw => hq w (List.mem_cons_of_mem _ hw)) (by omega) e2
                rw [List.map_cons, ← i1, ← i2]
          rw [key _ _ _ _ (fun z hz => gT_kid hg hz) (by omega) e]
        · cases h
theorem fill_low {l : List GTerm} (ha : AllQ l) : ∀ (n : Nat) {x : GTerm} {b b1 : Int} {o : GTerm}, fillP l n x b = (b1, o, true) → QT x → Low o
  | 0, x, b, b1, o, h, hx => by rw [fillP] at h; cases h
  | n + 1, x, b, b1, o, h, hx => by
    rw [fillP] at h
    have hy : QT (wk 5000 l x) := wk_in ha 5000 x hx
    split at h
    · cases h
    · split at h
      · rename_i c1 ys e
        cases h
        have key : ∀ (xs : List GTerm) (b b1 : Int) (ys : List GTerm), (∀ z ∈ xs, QT z) → fillP.fillsP (fun y b => fillP l n y b) xs b = (b1, ys, true) → ∀ y ∈ ys, Low y := by
          intro xs
          induction xs with
          | nil => intro b b1 ys hq h; rw [fillP.fillsP] at h; cases h; intro y hy; cases hy
          | cons z xs ih =>
            intro b b1 ys hq h
            rw [fillP.fillsP] at h
            rcases e : fillP l n z b with ⟨c1, y, t⟩
            simp only [e] at h
            cases t with
            | false => cases h
            | true =>
              simp only at h
              rcases e2 : fillP.fillsP (fun y b => fillP l n y b) xs c1 with ⟨c2, zs, t⟩
              rw [e2] at h
              cases h
              intro w hw
              rcases List.mem_cons.1 hw with rfl | hw
              · exact fill_low ha n e (hq z (List.mem_cons_self ..))
              · exact ih c1 c2 zs (fun w hw => hq w (List.mem_cons_of_mem _ hw)) e2 w hw
        intro v hv
        rcases vs_mem.1 hv with ⟨c, rfl⟩ | ⟨y, hy2, hv⟩
        · exact hy.2 _ (vs_mem.2 (.inl ⟨c, rfl⟩))
        · exact key _ _ _ _ (fun z hz => hy.kid hz) e y hy2 v hv
      · cases h
theorem sb_sub {σ : Int → GTerm} {x : GTerm} {d e : Int} (hg : gT e x = true) (h : gT d (sb σ x) = true) (hd : 1 ≤ d) : ∀ v ∈ vs x, gT 1 (σ v) = true ∧ nT (σ v) ≤ nT (sb σ x) ∧ ∀ w ∈ vs (σ v), w ∈ vs (sb σ x) := by
  intro v hv
  rcases vs_mem.1 hv with ⟨c, rfl⟩ | ⟨y, hy, hv⟩
  · rw [sb_var c] at h ⊢
    exact ⟨gT_mono h hd, Nat.le_refl _, fun w hw => hw⟩
  · by_cases c : x.gKind = 1
    · rw [(one_var2 (gT_one hg).2.1 c).2] at hy
      cases hy
    · have hm : sb σ y ∈ (sb σ x).gKids := by
        rw [sb_not c, mk_gKids]
        exact List.mem_map.2 ⟨y, hy, rfl⟩
      obtain ⟨h1, h2, h3⟩ := sb_sub (gT_kid hg hy) (gT_kid h hm) (by omega) v hv
      have h4 := kid_lt (x := sb σ x) hm
      exact ⟨h1, by omega, fun w hw => vs_mem.2 (.inr ⟨_, hm, h3 w hw⟩)⟩
termination_by nT x
decreasing_by exact kid_lt hy
/-- What a filled term is. -/
theorem filled_sg {l : List GTerm} (ha : AllQ l) {x : GTerm} (hg : gT 1 x = true) (hx : QT x) (ht : (fP l x).2 = true) : ∃ σ, Sg σ (fun v => v ∈ vs x) ∧ (fP l x).1 = sb σ x ∧ gT 1 (sb σ x) = true ∧ nT (sb σ x) ≤ 399 := by
  rcases fP_spec ha.b hx.1 with ⟨h, _⟩ | ⟨b', o, e, h, h1, h2, h3, h4⟩
  · rw [ht] at h
    cases h
  · have e1 := fill_sb 40 e (Nat.le_refl _) (Int.le_refl _) hg
    have e2 := fill_low ha 40 e hx
    rw [h]
    subst e1
    refine ⟨fσ l, ⟨hx.2, fun v hv => ?_, fun v hv => (sb_sub hg h1 (Int.le_refl _) v hv).1, fun v hv => ?_⟩, rfl, h1, h2⟩
    · obtain ⟨q1, q2, q3⟩ := sb_sub hg h1 (Int.le_refl _) v hv
      exact ⟨⟨gT_ok _ _ q1, by omega⟩, fun w hw => e2 w (q3 w hw)⟩
    · obtain ⟨q1, q2, q3⟩ := sb_sub hg h1 (Int.le_refl _) v hv
      omega
theorem at_L1 {k : Nat} {l : List Int} (v : Int) (hl : l.length ≤ maxLen) : ∀ (m j : Nat), j ≤ l.length → l.length - j < m → ∃ o, pspec_l03At_L1 k l v m (j : Int) = some o
  | 0, j, h1, h2 => by omega
  | m + 1, j, h1, h2 => by
    unfold pspec_l03At_L1
    by_cases hlt : j < l.length
    · rw [if_pos (by simpa using hlt), at_lt hlt, obs]
      split
      · exact ⟨_, rfl⟩
      · rw [wr_succ hlt hl]
        exact at_L1 v hl m (j + 1) (by omega) (by omega)
    · rw [if_neg (by simpa using hlt)]
      exact ⟨_, rfl⟩
theorem l03At {k : Nat} (hk : maxLen < k) {l : List Int} (hl : l.length ≤ 1000) (v : Int) : ∃ r, pspec_l03At k l v = some r := by
  unfold pspec_l03At
  have hM := maxLen_eq
  obtain ⟨o, e⟩ := at_L1 (k := k) (l := l) v (by omega) k 0 (by omega) (by omega)
  rw [show ((0 : Nat) : Int) = 0 from rfl] at e
  rw [e]
  cases o <;> exact ⟨_, rfl⟩
theorem like_L1 {k : Nat} {f : GTerm → GTerm → List Int → List Int → Option Bool} {x : GTerm} {l : List Int} (hx : x.gKids.length ≤ 1000) (hf : ∀ y ∈ x.gKids, f y y l l = some true) : ∀ (m j : Nat), j ≤ x.gKids.length → x.gKids.length - j < m → pspec_l03Like_L1 k f x x l l m (j : Int) = some (.done ())
  | 0, j, h1, h2 => by omega
  | m + 1, j, h1, h2 => by
    have hm : x.gKids.length ≤ maxLen := by rw [maxLen_eq]; omega
    unfold pspec_l03Like_L1
    by_cases hlt : j < x.gKids.length
    · rw [if_pos (by simpa using hlt), at_lt hlt, obs, obs, hf _ (List.getElem_mem hlt), obs, if_neg (by decide), wr_succ hlt hm]
      exact like_L1 hx hf m (j + 1) (by omega) (by omega)
    · rw [if_neg (by simpa using hlt)]
theorem like : ∀ (k : Nat) (x : GTerm) (l : List Int), maxLen + 2 * nT x + 2 < k → nT x ≤ 1000 → l.length ≤ 1000 → pspec_l03Like k x x l l = some true
  | 0, x, l, h, _, _ => by omega
  | k + 1, x, l, hw, hn, hl => by
    have hM := maxLen_eq
    have hk := nT_kids x
    have := nsum_len nT x.gKids
    unfold pspec_l03Like
    rw [if_neg (by simp), if_neg (by simp [sEq_refl]), if_neg (by simp)]
    split
    · obtain ⟨r, e⟩ := l03At (k := k) (by omega) hl x.gNum
      rw [e, obs, obs]
      simp
    · rw [if_neg (by simp)]
      have e := like_L1 (k := k) (f := pspec_l03Like k) (x := x) (l := l) (by omega) (fun y hy => by have := nsum_mem (n := nT) hy; exact like k y l (by omega) (by omega) hl) k 0 (by omega) (by omega)
      rw [show ((0 : Nat) : Int) = 0 from rfl] at e
      rw [e]
      rfl
theorem variant {k : Nat} (hk : maxLen + 1000000 < k) {x : GTerm} (hx : nT x ≤ 400) : pspec_Variant k x x = some true := by
  obtain ⟨l, e, h⟩ := varsOf hk hx
  unfold pspec_Variant
  rw [e, obs, obs, like k x l (big_w hk (by omega)) (by omega) h]
  rfl
theorem z0_not : tOk Z0 = false := by kernel_rfl
theorem unifyZ {k : Nat} (hk : maxLen + 1000000 < k) {x : GTerm} (h1 : BigT x) (h2 : tOk x = true) : pimpl_Unify_d k (.mk E20) x Z0 = some (.mk E20, false) := by
  unfold pimpl_Unify_d
  rw [copyTerms hk (by decide) e20_q.b, obs, impl_TermOk (big_w hk (by have := h1.2; omega)) h1.1, obs, h2, if_neg (by decide), impl_TermOk (big_w hk (by have := z0_ok.2; omega)) z0_ok.1, obs, z0_not, if_pos (by rfl)]
  unfold pimpl_Unify_d_J1
  rw [if_pos rfl, copyTerms hk (by decide) e20_q.b, obs]
theorem drawFilled {k : Nat} {a : List Int} (hl : a.length ≤ 1048576) (hk : maxLen + 1100000 < k) (hk2 : 1000000 < k - maxLen) : ∃ b t, pspec_DrawFilled k a = some (b, t) ∧ b.gList.length ≤ 1000 ∧ AllB b.gList ∧ BigT t := by
  obtain ⟨c, e1, g1⟩ := l01New (k := k) hl (Nat.lt_of_le_of_lt (Nat.le_add_right _ _) hk)
  obtain ⟨c2, t, e2, g2, g3⟩ := l03Any g1 hk2
  obtain ⟨c3, b, e3, g4, g5⟩ := any4 hk hk2 g2
  unfold pspec_DrawFilled pspec_DrawWalked
  rw [e1, obs, e2, obs, e3, obs, obs]
  exact ⟨_, _, rfl, by show b.gList.length ≤ 1000; omega, g5, g3.big⟩
theorem drawNew {k : Nat} {a : List Int} (hl : a.length ≤ 1048576) (hk : maxLen < k) : ∃ n, pspec_DrawBindsNew k a = some n ∧ n ∈ [0, 3, -1, 5000, 5001] := by
  obtain ⟨c, e1, g1⟩ := l01New (k := k) hl hk
  obtain ⟨c2, n, e2, _, g2⟩ := l01PickInt g1 k (l := [0, 3, -1, 5000, 5001]) (by decide)
  unfold pspec_DrawBindsNew
  rw [e1, obs, e2, obs]
  exact ⟨_, rfl, g2⟩
theorem law_J1 {k : Nat} {a : List Int} (hl : a.length ≤ 1048576) (hk : maxLen + 1100000 < k) (hk2 : 1000000 < k - maxLen) {b : GBinds} {x y z : GTerm} (hx : nT x ≤ 400) : plaws_FnUnifiesMost_J1 k a (b, true) (x, true) (x, y, z) = some true := by
  have hk1 : maxLen + 1000000 < k := Nat.lt_of_le_of_lt (Nat.add_le_add_left (by decide) _) hk
  obtain ⟨c, t, e1, g1, g2, g3⟩ := drawFilled (k := k) hl hk hk2
  obtain ⟨n, e2, g4⟩ := drawNew (k := k) hl (kk1 hk1)
  obtain ⟨m, hm, e3, e4⟩ := newBoth (k := k) g4
  have same : ∀ t : GTerm, nT t ≤ 400 → pspec_SameTerm k t t = some true := fun t ht => sameTerm k t (big_w hk1 (by omega)) (by unfold Huge; omega)
  unfold plaws_FnUnifiesMost_J1
  rw [e1, obs, filledI hk1 g1 g2 g3, obs, filledSpec hk1 g1 g2 g3, obs, e2, obs, if_pos rfl, if_pos rfl, variant hk1 hx, obs, if_pos rfl, if_pos (by simp), same _ (fP_big g2 g3).2, obs, if_pos rfl, walkedI hk1 g1 g2 g3, obs, walkedS hk1 g1 g2 g3, obs, same _ (wk_in g2 5000 t g3).2, obs, if_pos rfl, e3, obs, e4, obs,
    sameBinds (kk1 hk1) (by simp; omega) (fun y hy => by rw [List.eq_of_mem_replicate hy]; exact same _ z0_ok.2), obs]
theorem law (a : List Int) (ha : okL (okI .u8) a) : ∃ k, plaws_FnUnifiesMost k a = some true := by
  obtain ⟨k, hk⟩ : ∃ k, 10995116277760 < k - maxLen := ⟨10995116277761 + maxLen, by rw [Nat.add_sub_cancel]; decide⟩
  refine ⟨k, ?_⟩
  have hk1 : 1000000 < k - maxLen := kle _ hk
  have hk2 : maxLen + 1100000 < k := kk _ hk
  have hk3 : maxLen + 1000000 < k := kk _ hk
  unfold plaws_FnUnifiesMost plaws_big
  rw [obs]
  by_cases hb : (a.length : Int) > 1048576
  · rw [if_pos (by simpa using hb)]
  rw [if_neg (by simpa using hb)]
  have hl : a.length ≤ 1048576 := by omega
  obtain ⟨c, e1, g1⟩ := l01New (k := k) hl (kk1 hk3)
  obtain ⟨c2, x, e2, g2, hx⟩ := l03Term g1 hk1
  obtain ⟨c3, y, e3, g3, hy⟩ := l03Term g2 hk1
  obtain ⟨c4, z, e4, _⟩ := l03Term g3 hk1
  have hxg := hx.1 1 (by omega)
  have hxn : nT x ≤ 63 := by have := hx.2.1; omega
  have hyn : nT y ≤ 63 := by have := hy.2.1; omega
  have qx : QT x := ⟨⟨gT_ok _ _ hxg, by omega⟩, hx.2.2⟩
  have qy : QT y := ⟨⟨gT_ok _ _ (hy.1 1 (by omega)), by omega⟩, hy.2.2⟩
  unfold pspec_DrawTerms
  rw [e1, obs, e2, obs, e3, obs, e4, obs, obs, new20, obs, shifted hk3 hxg hx.2.2 (by omega), obs]
  obtain ⟨b1, f1, f2, f3, f4⟩ := matchAll hk2 (id_sg hx.2.2) hx.2.2 hxg (by omega) (fun v hv => hv) (by rw [sb_id hxg]; exact hxg) (by rw [sb_id hxg]; omega)
  rw [sb_id hxg] at f1 f4
  obtain ⟨s1, s2⟩ := sh_big hxg hx.2.2 (by omega)
  have J : ∀ b : GBinds, plaws_FnUnifiesMost_J1 k a (b, true) (x, true) (x, y, z) = some true := fun b => law_J1 hl hk2 hk1 (by omega)
  obtain ⟨b2, g, f5, f6, f7⟩ := unifyT hk2 qx qy
  rw [f1, obs, filledI hk3 (b := b1) (by omega) f3 s1, f4, obs, f5, obs]
  cases g with
  | false => rw [if_neg (by simp)]; exact J b1
  | true =>
    rw [if_pos (by rfl), filledI hk3 (b := b2) (by omega) f7.b qx.1, obs]
    cases ht : (fP b2.gList x).2 with
    | false =>
      have hz : (fP b2.gList x).1 = Z0 := by
        rcases fP_spec f7.b qx.1 with ⟨_, h⟩ | ⟨b', o, _, h, _⟩
        · exact h
        · rw [h] at ht
          cases ht
      rw [hz, unifyZ hk3 s1 s2, obs, filledI hk3 (b := .mk E20) (by decide) e20_q.b s1, obs, if_neg (by decide)]
      exact J b1
    | true =>
      obtain ⟨σ, hS, h1, h2, h3⟩ := filled_sg f7 hxg qx ht
      obtain ⟨b3, r1, r2, r3, r4⟩ := matchAll hk2 hS hx.2.2 hxg (by omega) (fun v hv => hv) h2 h3
      rw [h1, r1, obs, filledI hk3 (b := b3) (by omega) r3 s1, r4, obs, if_pos rfl, if_neg (by simp), if_neg (by simp), variant hk3 (by show nT (sb σ x) ≤ 400; omega), obs, if_neg (by decide)]
      exact J b1
end FnUnifiesMost
end Go.Proofs.Ytcdbdmokaihcoaa

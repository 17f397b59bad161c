/- The law, plainly. -/
import Derived.Test.YtipjloclobcpkaaGreatDoorFn
set_option linter.unusedVariables false
set_option linter.unusedSimpArgs false
namespace Go.Proofs.YtipjloclobcpkaaGreatDoor
open Go.RowKit Go.Bv
namespace FnWrites
mutual
/-- How many terms stand in a term. -/
def nT : GTerm → Nat
  | .mk _ _ _ l => nTs l
def nTs : List GTerm → Nat
  | [] => 0
  | x :: l => 1 + nT x + nTs l
end
theorem nTs_eq : ∀ l : List GTerm, nTs l = nsum nT l
  | [] => by rw [nTs]; rfl
  | x :: l => by rw [nTs, nsum, nTs_eq l]
theorem nT_kids (x : GTerm) : nT x = nsum nT x.gKids := by
  cases x with
  | mk a b c l => rw [nT, nTs_eq]; rfl

theorem ok_kids {x : GTerm} (h : x.ok) : okL GTerm.ok x.gKids := by cases h with | mk a b c l h1 h2 h3 h4 h5 => exact ⟨h4, h5⟩
theorem ok_name {x : GTerm} (h : x.ok) : okFs x.gName := by cases h with | mk a b c l h1 h2 h3 h4 h5 => exact h2
theorem ok_kind {x : GTerm} (h : x.ok) : okI .i64 x.gKind := by cases h with | mk a b c l h1 h2 h3 h4 h5 => exact h1
theorem ok_num {x : GTerm} (h : x.ok) : okI .i64 x.gNum := by cases h with | mk a b c l h1 h2 h3 h4 h5 => exact h3

theorem mk_gKind (a : Int) (b : ByteArray) (c : Int) (l : List GTerm) : (GTerm.mk a b c l).gKind = a := rfl
theorem mk_gName (a : Int) (b : ByteArray) (c : Int) (l : List GTerm) : (GTerm.mk a b c l).gName = b := rfl
theorem mk_gNum (a : Int) (b : ByteArray) (c : Int) (l : List GTerm) : (GTerm.mk a b c l).gNum = c := rfl
theorem mk_gKids (a : Int) (b : ByteArray) (c : Int) (l : List GTerm) : (GTerm.mk a b c l).gKids = l := rfl

def inR (x a b : Int) : Bool := decide (a ≤ x ∧ x ≤ b)
theorem inR_t {x a b : Int} (h : a ≤ x ∧ x ≤ b) : inR x a b = true := decide_eq_true h
theorem inR_f {x a b : Int} (h : ¬ (a ≤ x ∧ x ≤ b)) : inR x a b = false := decide_eq_false h
theorem l01In (k : Nat) (x a b : Int) : pQ_l01In k x a b = some (inR x a b) := by
  unfold pQ_l01In inR
  by_cases h : a ≤ x
  · rw [if_pos (by simpa using h)]; simp [h]
  · rw [if_neg (by simpa using h)]; simp [h]
theorem within (k : Nat) (x a b : Int) : pU_within k x a b = some (inR x a b) := by
  unfold pU_within inR
  by_cases h : a ≤ x
  · rw [if_pos (by simpa using h)]; simp [h]
  · rw [if_neg (by simpa using h)]; simp [h]
theorem bt_le (s : ByteArray) (i : Int) : 0 ≤ bt s i ∧ bt s i ≤ 255 := by
  unfold bt
  have : ((s[i.toNat]?).getD 0).toNat < 256 := ((s[i.toNat]?).getD 0).toNat_lt
  omega
def gb (s : ByteArray) (i : Nat) : Prop := 33 ≤ bt s (i : Int) ∧ bt s (i : Int) ≤ 126 ∧ bt s (i : Int) ≠ 39 ∧ bt s (i : Int) ≠ 34
instance (s : ByteArray) (i : Nat) : Decidable (gb s i) := by unfold gb; infer_instance
def nmOk (s : ByteArray) : Prop := (∀ i, i < s.size → gb s i) ∧ 1 ≤ s.size ∧ s.size ≤ 20
instance (s : ByteArray) : Decidable (nmOk s) := by unfold nmOk; infer_instance
theorem l03Name_L1 (k : Nat) (s : ByteArray) (hs : s.size ≤ maxLen) : ∀ (m n : Nat), n ≤ s.size → s.size - n < m →
    ∃ o, pQ_l03Name_L1 k s m (n : Int) = some o ∧ (match o with | .ret r => r = false ∧ ∃ i, i < s.size ∧ ¬ gb s i | .done _ => ∀ i, n ≤ i → i < s.size → gb s i)
  | 0, n, h1, h2 => by omega
  | m + 1, n, h1, h2 => by
    unfold pQ_l03Name_L1
    by_cases hlt : n < s.size
    · have hg : 0 ≤ (n : Int) ∧ (n : Int).toNat < s.size := ⟨by omega, by simpa using hlt⟩
      have bad : ∀ b : Prop, (gb s n → ¬ b) → b → ∃ o, (some (Out.ret false) : Option (Out Bool Unit)) = some o ∧ (match o with | .ret r => r = false ∧ ∃ i, i < s.size ∧ ¬ gb s i | .done _ => ∀ i, n ≤ i → i < s.size → gb s i) :=
        fun b h hb => ⟨_, rfl, rfl, n, hlt, fun h' => h h' hb⟩
      rw [if_pos (by simpa using hlt), if_pos hg]
      by_cases c1 : bt s (n : Int) < 33
      · rw [if_pos (by simpa using c1)]; exact bad _ (fun h => by have := h.1; omega) c1
      rw [if_neg (by simpa using c1), if_pos hg]
      by_cases c2 : bt s (n : Int) > 126
      · rw [if_pos (by simpa using c2)]; exact bad _ (fun h => by have := h.2.1; omega) c2
      rw [if_neg (by simpa using c2), if_pos hg]
      by_cases c3 : bt s (n : Int) = 39
      · rw [if_pos (by simpa using c3)]; exact bad _ (fun h => h.2.2.1) c3
      rw [if_neg (by simpa using c3), if_pos hg]
      by_cases c4 : bt s (n : Int) = 34
      · rw [if_pos (by simpa using c4)]; exact bad _ (fun h => h.2.2.2) c4
      rw [if_neg (by simpa using c4), wr_succ hlt hs]
      obtain ⟨o, h3, h4⟩ := l03Name_L1 k s hs m (n + 1) (by omega) (by omega)
      refine ⟨o, h3, ?_⟩
      cases o with
      | ret r => exact h4
      | done u =>
        intro i hi1 hi2
        by_cases e : i = n
        · subst e; exact ⟨by omega, by omega, c3, c4⟩
        · exact h4 i (by omega) hi2
    · rw [if_neg (by simpa using hlt)]
      exact ⟨_, rfl, fun i h3 h4 => by omega⟩
theorem nameOk_L1 (k : Nat) (s : ByteArray) (hs : s.size ≤ maxLen) : ∀ (m n : Nat), n ≤ s.size → s.size - n < m →
    ∃ o, pU_nameOk_L1 k s m (n : Int) = some o ∧ (match o with | .ret r => r = false ∧ ∃ i, i < s.size ∧ ¬ gb s i | .done _ => ∀ i, n ≤ i → i < s.size → gb s i)
  | 0, n, h1, h2 => by omega
  | m + 1, n, h1, h2 => by
    unfold pU_nameOk_L1
    by_cases hlt : n < s.size
    · have hg : 0 ≤ (n : Int) ∧ (n : Int).toNat < s.size := ⟨by omega, by simpa using hlt⟩
      have hb := bt_le s (n : Int)
      have bad : ∀ b : Prop, (gb s n → ¬ b) → b → ∃ o, (some (Out.ret false) : Option (Out Bool Unit)) = some o ∧ (match o with | .ret r => r = false ∧ ∃ i, i < s.size ∧ ¬ gb s i | .done _ => ∀ i, n ≤ i → i < s.size → gb s i) :=
        fun b h hb => ⟨_, rfl, rfl, n, hlt, fun h' => h h' hb⟩
      rw [if_pos (by simpa using hlt), if_pos hg, within, wr_i64 (by omega) (by omega)]
      simp only [Option.bind_some]
      by_cases c1 : 33 ≤ bt s (n : Int) ∧ bt s (n : Int) ≤ 126
      · rw [inR_t c1, if_neg (by simp), if_pos hg]
        by_cases c3 : bt s (n : Int) = 39
        · rw [if_pos (by simpa using c3)]; exact bad _ (fun h => h.2.2.1) c3
        rw [if_neg (by simpa using c3), if_pos hg]
        by_cases c4 : bt s (n : Int) = 34
        · rw [if_pos (by simpa using c4)]; exact bad _ (fun h => h.2.2.2) c4
        rw [if_neg (by simpa using c4), wr_succ hlt hs]
        obtain ⟨o, h3, h4⟩ := nameOk_L1 k s hs m (n + 1) (by omega) (by omega)
        refine ⟨o, h3, ?_⟩
        cases o with
        | ret r => exact h4
        | done u =>
          intro i hi1 hi2
          by_cases e : i = n
          · subst e; exact ⟨by omega, by omega, c3, c4⟩
          · exact h4 i (by omega) hi2
      · rw [inR_f c1, if_pos (by simp)]
        exact bad _ (fun h => by have := h.1; have := h.2.1; omega) c1
    · rw [if_neg (by simpa using hlt)]
      exact ⟨_, rfl, fun i h3 h4 => by omega⟩
theorem nm_of {s : ByteArray} (h : ∀ i, 0 ≤ i → i < s.size → gb s i) : inR (s.size : Int) 1 20 = decide (nmOk s) := by
  unfold inR
  rw [decide_eq_decide]
  unfold nmOk
  constructor
  · intro h1; exact ⟨fun i hi => h i (by omega) hi, by omega, by omega⟩
  · intro h1; obtain ⟨_, h5, h6⟩ := h1; omega
theorem l03Name {k : Nat} {s : ByteArray} (hs : s.size ≤ maxLen) (hk : maxLen < k) : pQ_l03Name k s = some (decide (nmOk s)) := by
  unfold pQ_l03Name
  obtain ⟨o, h1, h2⟩ := l03Name_L1 k s hs k 0 (by omega) (by omega)
  rw [show ((0 : Nat) : Int) = 0 from rfl] at h1
  rw [h1]
  cases o with
  | ret r =>
    obtain ⟨rfl, i, h3, h4⟩ := h2
    have : ¬ nmOk s := fun h => h4 (h.1 i h3)
    simp [this]
  | done u =>
    simp only [Option.bind_some]
    rw [l01In]
    simp only [Option.bind_some]
    rw [nm_of h2]
theorem nameOk {k : Nat} {s : ByteArray} (hs : s.size ≤ maxLen) (hk : maxLen < k) : pU_nameOk k s = some (decide (nmOk s)) := by
  unfold pU_nameOk
  obtain ⟨o, h1, h2⟩ := nameOk_L1 k s hs k 0 (by omega) (by omega)
  rw [show ((0 : Nat) : Int) = 0 from rfl] at h1
  rw [h1]
  cases o with
  | ret r =>
    obtain ⟨rfl, i, h3, h4⟩ := h2
    have : ¬ nmOk s := fun h => h4 (h.1 i h3)
    simp [this]
  | done u =>
    simp only [Option.bind_some]
    rw [within]
    simp only [Option.bind_some]
    rw [nm_of h2]
def one (x : GTerm) : Bool :=
  if x.gKind = 1 then inR x.gNum 0 99999 && (sEq x.gName (bs []) && ((x.gKids.length : Int) == 0))
  else if x.gKind = 2 then decide (nmOk x.gName) && ((x.gNum == 0) && ((x.gKids.length : Int) == 0))
  else if x.gKind = 3 then inR x.gNum (-999999999) 999999999 && (sEq x.gName (bs []) && ((x.gKids.length : Int) == 0))
  else if x.gKind = 4 then decide (nmOk x.gName) && ((x.gNum == 0) && inR (x.gKids.length : Int) 1 5)
  else false
mutual
def gT : Int → GTerm → Bool
  | d, .mk a b c l => decide (d ≤ 40) && (one (.mk a b c l) && gTs (d + 1) l)
def gTs : Int → List GTerm → Bool
  | _, [] => true
  | d, x :: l => gT d x && gTs d l
end
theorem gT_eq (d : Int) (x : GTerm) : gT d x = (decide (d ≤ 40) && (one x && gTs (d + 1) x.gKids)) := by
  cases x with
  | mk a b c l => rw [gT]; rfl
theorem gTs_drop {d : Int} {l : List GTerm} {j : Nat} (h : j < l.length) : gTs d (l.drop j) = (gT d l[j] && gTs d (l.drop (j + 1))) := by
  rw [List.drop_eq_getElem_cons h, gTs]
theorem ns_drop {l : List GTerm} {j : Nat} (h : j < l.length) : nsum nT (l.drop j) = 1 + nT l[j] + nsum nT (l.drop (j + 1)) := by
  rw [List.drop_eq_getElem_cons h, nsum]
theorem l03One {k : Nat} {x : GTerm} (hx : x.ok) (hk : maxLen < k) : pQ_l03One k x = some (one x) := by
  have hn := l03Name (k := k) (s := x.gName) (ok_name hx) hk
  unfold pQ_l03One one
  simp only [hn, l01In, Option.bind_some]
  by_cases c1 : x.gKind = 1
  · rw [if_pos (by simpa using c1), if_pos c1]
    cases inR x.gNum 0 99999 <;> cases sEq x.gName (bs []) <;> simp
  rw [if_neg (by simpa using c1), if_neg c1]
  by_cases c2 : x.gKind = 2
  · rw [if_pos (by simpa using c2), if_pos c2]
    cases decide (nmOk x.gName) <;> by_cases h : x.gNum = 0 <;> simp [h]
  rw [if_neg (by simpa using c2), if_neg c2]
  by_cases c3 : x.gKind = 3
  · rw [if_pos (by simpa using c3), if_pos c3]
    cases inR x.gNum (-999999999) 999999999 <;> cases sEq x.gName (bs []) <;> simp
  rw [if_neg (by simpa using c3), if_neg c3]
  by_cases c4 : x.gKind = 4
  · rw [if_pos (by simpa using c4), if_pos c4]
    cases decide (nmOk x.gName) <;> by_cases h : x.gNum = 0 <;> simp [h]
  · rw [if_neg (by simpa using c4), if_neg c4]
def leftOf (v left : Int) (n : Nat) : Prop := -1 ≤ v ∧ (0 ≤ v ↔ (n : Int) ≤ left) ∧ (0 ≤ v → v = left - (n : Int))
theorem l03Count_L1 {k : Nat} {x : GTerm} {f : GTerm → Int → Option Int} (hx : x.gKids.length ≤ maxLen) (hf : ∀ y ∈ x.gKids, ∀ b, 0 ≤ b → b ≤ 401 → ∃ v, f y b = some v ∧ leftOf v b (1 + nT y)) :
    ∀ (m j : Nat) (b : Int), j ≤ x.gKids.length → x.gKids.length - j < m → -1 ≤ b → b ≤ 401 →
      ∃ v, pQ_l03Count_L1 k f x m b (j : Int) = some (.done v) ∧ ((b = -1 ∧ v = -1) ∨ (0 ≤ b ∧ leftOf v b (nsum nT (x.gKids.drop j))))
  | 0, j, b, h1, h2, h3, h4 => by omega
  | m + 1, j, b, h1, h2, h3, h4 => by
    unfold pQ_l03Count_L1
    by_cases hlt : j < x.gKids.length
    · rw [if_pos (by simpa using hlt)]
      by_cases hb : 0 ≤ b
      · rw [if_pos (by simpa using hb), at_lt hlt]
        simp only [Option.bind_some]
        obtain ⟨v, e, g1, g2, g3⟩ := hf _ (List.getElem_mem hlt) b hb h4
        rw [e]
        simp only [Option.bind_some]
        rw [wr_succ hlt hx]
        obtain ⟨u, e2, h5⟩ := l03Count_L1 (k := k) hx hf m (j + 1) v (by omega) (by omega) g1 (by by_cases h : 0 ≤ v <;> omega)
        refine ⟨u, e2, .inr ⟨hb, ?_⟩⟩
        rw [ns_drop hlt]
        rcases h5 with ⟨rfl, rfl⟩ | ⟨h6, h7, h8, h9⟩
        · refine ⟨by omega, ⟨fun h => by omega, fun h => by have := g2.2 (by omega); omega⟩, fun h => by omega⟩
        · have := g3 h6
          have := g2.1 h6
          refine ⟨h7, ⟨fun h => by have := h8.1 h; omega, fun h => h8.2 (by omega)⟩, fun h => by have := h9 h; omega⟩
      · rw [if_neg (by simpa using hb)]
        exact ⟨b, rfl, .inl ⟨by omega, by omega⟩⟩
    · rw [if_neg (by simpa using hlt)]
      rw [List.drop_of_length_le (by omega)]
      by_cases hb : 0 ≤ b
      · exact ⟨b, rfl, .inr ⟨hb, h3, by simp only [nsum]; omega, fun _ => by simp only [nsum]; omega⟩⟩
      · exact ⟨b, rfl, .inl ⟨by omega, by omega⟩⟩
theorem l03Count : ∀ (k : Nat) (x : GTerm), maxLen + 2 * nT x + 2 < k → x.ok → ∀ b : Int, 0 ≤ b → b ≤ 401 → ∃ v, pQ_l03Count k x b = some v ∧ leftOf v b (1 + nT x)
  | 0, x, h => by omega
  | k + 1, x, hw => by
    intro hx b h0 h1
    have hn := nT_kids x
    unfold pQ_l03Count
    rw [wr_i64 (by omega) (by omega)]
    obtain ⟨v, e, h⟩ := l03Count_L1 (k := k) (x := x) (ok_kids hx).1 (fun y hy b h0 h1 => by have := nsum_mem (n := nT) hy; exact l03Count k y (by omega) ((ok_kids hx).2 y hy) b h0 h1) k 0 (b - 1) (by omega) (by have := (ok_kids hx).1; omega) (by omega) (by omega)
    rw [show ((0 : Nat) : Int) = 0 from rfl] at e
    rw [e]
    refine ⟨v, rfl, ?_⟩
    rw [List.drop_zero, ← hn] at h
    rcases h with ⟨h2, rfl⟩ | ⟨h2, h3, h4, h5⟩
    · exact ⟨by omega, ⟨fun h => by omega, fun h => by omega⟩, fun h => by omega⟩
    · exact ⟨h3, ⟨fun h => by have := h4.1 h; omega, fun h => h4.2 (by omega)⟩, fun h => by have := h5 h; omega⟩
theorem l03Right_L1 {k : Nat} {x : GTerm} {d : Int} {f : GTerm → Int → Option Bool} (hx : x.gKids.length ≤ maxLen) (hd : wr.i64 (d + 1) = d + 1) (hf : ∀ y ∈ x.gKids, f y (d + 1) = some (gT (d + 1) y)) :
    ∀ (m j : Nat), j ≤ x.gKids.length → x.gKids.length - j < m → pQ_l03Right_L1 k f x d m (j : Int) = some (if gTs (d + 1) (x.gKids.drop j) then .done () else .ret false)
  | 0, j, h1, h2 => by omega
  | m + 1, j, h1, h2 => by
    unfold pQ_l03Right_L1
    by_cases hlt : j < x.gKids.length
    · rw [if_pos (by simpa using hlt), at_lt hlt, hd]
      simp only [Option.bind_some, hf _ (List.getElem_mem hlt)]
      rw [gTs_drop hlt]
      cases hg : gT (d + 1) x.gKids[j] with
      | false => simp
      | true =>
        rw [if_neg (by simp), wr_succ hlt hx, l03Right_L1 hx hd hf m (j + 1) (by omega) (by omega)]
        simp
    · rw [if_neg (by simpa using hlt), List.drop_of_length_le (by omega), gTs]; rfl
theorem l03Right : ∀ (k : Nat) (x : GTerm), maxLen + 2 * nT x + 2 < k → x.ok → ∀ d : Int, 0 ≤ d → d ≤ 41 → pQ_l03Right k x d = some (gT d x)
  | 0, x, h => by omega
  | k + 1, x, hw => by
    intro hx d h0 h1
    have hn := nT_kids x
    unfold pQ_l03Right
    rw [gT_eq]
    by_cases hd : d > 40
    · rw [if_pos (by simpa using hd)]; simp; omega
    · rw [if_neg (by simpa using hd), l03One hx (by omega)]
      simp only [Option.bind_some]
      cases h1 : one x with
      | false => simp
      | true =>
        rw [if_neg (by simp)]
        have e := l03Right_L1 (k := k) (x := x) (d := d) (ok_kids hx).1 (wr_i64 (by omega) (by omega)) (fun y hy => by have := nsum_mem (n := nT) hy; exact l03Right k y (by omega) ((ok_kids hx).2 y hy) (d + 1) (by omega) (by omega)) k 0 (by omega) (by have := (ok_kids hx).1; omega)
        rw [show ((0 : Nat) : Int) = 0 from rfl, List.drop_zero] at e
        rw [e]
        cases gTs (d + 1) x.gKids <;> simp <;> omega
def tOk (x : GTerm) : Bool := decide (1 + nT x ≤ 400) && gT 1 x
theorem spec_TermOk {k : Nat} {x : GTerm} (hw : maxLen + 2 * nT x + 2 < k) (hx : x.ok) : pQ_TermOk k x = some (tOk x) := by
  unfold pQ_TermOk tOk
  obtain ⟨v, e, h1, h2, h3⟩ := l03Count k x hw hx 400 (by omega) (by omega)
  rw [e]
  simp only [Option.bind_some]
  by_cases hv : 0 ≤ v
  · rw [if_pos (by simpa using hv), l03Right k x hw hx 1 (by omega) (by omega)]
    have := h2.1 hv
    simp; omega
  · rw [if_neg (by simpa using hv)]
    have : ¬ (1 + nT x ≤ 400) := fun h => hv (h2.2 (by omega))
    simp [this]
def cnt (d : Int) (x : GTerm) : Int := if gT d x && decide (1 + nT x ≤ 400) then ((1 + nT x : Nat) : Int) else 401
theorem sized_L2 {k : Nat} {x : GTerm} {d : Int} {f : GTerm → Int → Option Int} (hx : x.gKids.length ≤ maxLen) (hd : wr.i64 (d + 1) = d + 1) (hf : ∀ y ∈ x.gKids, f y (d + 1) = some (cnt (d + 1) y)) :
    ∀ (m j : Nat) (b : Int), j ≤ x.gKids.length → x.gKids.length - j < m → 1 ≤ b → b ≤ 400 →
      pU_sized_L2 k f x d m b (j : Int) = some (if gTs (d + 1) (x.gKids.drop j) && decide (b + (nsum nT (x.gKids.drop j) : Int) ≤ 400) then .done (b + (nsum nT (x.gKids.drop j) : Int)) else .ret 401)
  | 0, j, b, h1, h2, h3, h4 => by omega
  | m + 1, j, b, h1, h2, h3, h4 => by
    unfold pU_sized_L2
    by_cases hlt : j < x.gKids.length
    · rw [if_pos (by simpa using hlt), at_lt hlt, hd]
      simp only [Option.bind_some, hf _ (List.getElem_mem hlt)]
      rw [gTs_drop hlt, ns_drop hlt, wr_succ hlt hx]
      by_cases hg : gT (d + 1) x.gKids[j] = true ∧ 1 + nT x.gKids[j] ≤ 400
      · have hc : cnt (d + 1) x.gKids[j] = ((1 + nT x.gKids[j] : Nat) : Int) := by unfold cnt; rw [if_pos (by simpa using hg)]
        rw [hc, wr_i64 (by omega) (by omega)]
        by_cases hs : b + ((1 + nT x.gKids[j] : Nat) : Int) > 400
        · rw [if_pos (by simpa using hs), if_neg]
          simp only [Bool.and_eq_true, decide_eq_true_eq, not_and]
          intro _; omega
        · rw [if_neg (by simpa using hs), sized_L2 hx hd hf m (j + 1) _ (by omega) (by omega) (by omega) (by omega), hg.1, Bool.true_and]
          have e1 : b + ((1 + nT x.gKids[j] : Nat) : Int) + (nsum nT (x.gKids.drop (j + 1)) : Int) = b + ((1 + nT x.gKids[j] + nsum nT (x.gKids.drop (j + 1)) : Nat) : Int) := by omega
          rw [e1]
      · have hc : cnt (d + 1) x.gKids[j] = 401 := by unfold cnt; rw [if_neg (by simpa using hg)]
        rw [hc, wr_i64 (by omega) (by omega), if_pos (by simp; omega), if_neg]
        simp only [Bool.and_eq_true, decide_eq_true_eq, not_and]
        intro h5
        have h6 : ¬ (1 + nT x.gKids[j] ≤ 400) := fun h => hg ⟨h5.1, h⟩
        omega
    · rw [if_neg (by simpa using hlt), List.drop_of_length_le (by omega), gTs, if_pos (by simp only [nsum]; simp; omega)]
      simp [nsum]
theorem sized : ∀ (k : Nat) (x : GTerm), maxLen + 2 * nT x + 2 < k → x.ok → ∀ d : Int, 0 ≤ d → d ≤ 41 → pU_sized k x d = some (cnt d x)
  | 0, x, h => by omega
  | k + 1, x, hw => by
    intro hx d h0 h1
    have hn := nT_kids x
    have hnm := nameOk (k := k) (s := x.gName) (ok_name hx) (by omega)
    have hJ : d ≤ 40 → one x = true → pU_sized_J1 k (pU_sized k) x d = some (cnt d x) := by
      intro hd h1
      unfold pU_sized_J1 cnt
      have e := sized_L2 (k := k) (x := x) (d := d) (ok_kids hx).1 (wr_i64 (by omega) (by omega)) (fun y hy => by have := nsum_mem (n := nT) hy; exact sized k y (by omega) ((ok_kids hx).2 y hy) (d + 1) (by omega) (by omega)) k 0 1 (by omega) (by have := (ok_kids hx).1; omega) (by omega) (by omega)
      rw [show ((0 : Nat) : Int) = 0 from rfl, List.drop_zero, ← hn] at e
      rw [e, gT_eq, h1, Bool.true_and, decide_eq_true hd, Bool.true_and]
      have e2 : decide (1 + (nT x : Int) ≤ 400) = decide (1 + nT x ≤ 400) := by rw [decide_eq_decide]; omega
      rw [e2]
      split
      · simp
      · simp
    have hbad : one x = false → (401 : Int) = cnt d x := by
      intro h1; unfold cnt; rw [gT_eq, h1]; simp
    unfold pU_sized
    by_cases hd : d > 40
    · rw [if_pos (by simpa using hd)]
      unfold cnt; rw [gT_eq, decide_eq_false (show ¬ d ≤ 40 by omega)]; simp
    have hJ' := hJ (by omega)
    rw [if_neg (by simpa using hd)]
    simp only [hnm, within, Option.bind_some]
    generalize pU_sized_J1 k (pU_sized k) x d = J at hJ' ⊢
    generalize cnt d x = C at hJ' hbad ⊢
    have hlen : ((x.gKids.length : Int) > 0) ↔ ¬ ((x.gKids.length : Int) = 0) := by omega
    unfold one at hJ' hbad
    by_cases c1 : x.gKind = 1
    · rw [if_pos (by simpa using c1)]
      rw [if_pos c1] at hJ' hbad
      cases h2 : inR x.gNum 0 99999 <;> cases h3 : sEq x.gName (bs []) <;> by_cases h4 : (x.gKids.length : Int) = 0 <;> simp_all
    rw [if_neg (by simpa using c1)]
    rw [if_neg c1] at hJ' hbad
    by_cases c2 : x.gKind = 2
    · rw [if_pos (by simpa using c2)]
      rw [if_pos c2] at hJ' hbad
      cases h2 : decide (nmOk x.gName) <;> by_cases h3 : x.gNum = 0 <;> by_cases h4 : (x.gKids.length : Int) = 0 <;> simp_all
    rw [if_neg (by simpa using c2)]
    rw [if_neg c2] at hJ' hbad
    by_cases c3 : x.gKind = 3
    · rw [if_pos (by simpa using c3)]
      rw [if_pos c3] at hJ' hbad
      cases h2 : inR x.gNum (-999999999) 999999999 <;> cases h3 : sEq x.gName (bs []) <;> by_cases h4 : (x.gKids.length : Int) = 0 <;> simp_all
    rw [if_neg (by simpa using c3)]
    rw [if_neg c3] at hJ' hbad
    by_cases c4 : x.gKind = 4
    · rw [if_pos (by simpa using c4)]
      rw [if_pos c4] at hJ' hbad
      cases h2 : decide (nmOk x.gName) <;> by_cases h3 : x.gNum = 0 <;> cases h4 : inR (x.gKids.length : Int) 1 5 <;> simp_all
    · rw [if_neg (by simpa using c4)]
      rw [if_neg c4] at hbad
      rw [hbad rfl]
theorem impl_TermOk {k : Nat} {x : GTerm} (hw : maxLen + 2 * nT x + 2 < k) (hx : x.ok) : pU_TermOk k x = some (tOk x) := by
  unfold pU_TermOk tOk
  rw [sized k x hw hx 1 (by omega) (by omega)]
  simp only [Option.bind_some]
  unfold cnt
  cases gT 1 x <;> by_cases h : 1 + nT x ≤ 400 <;> simp [h] <;> omega
theorem obs {α β : Type} {a : α} {f : α → Option β} : (some a).bind f = f a := by
  cases h : f a with
  | none => exact h
  | some b => exact h
def symb (b : Int) : Bool := decide (Lib.indexByte (bs [43, 45, 42, 47, 92, 94, 60, 62, 61, 126, 58, 46, 63, 64, 35, 38, 36]).data.toList b.toNat.toUInt8 ≥ 0)
def endb (b : Int) : Bool := decide (Lib.indexByte (bs [32, 9, 10, 37]).data.toList b.toNat.toUInt8 ≥ 0)
def markb (b : Int) : Bool := decide (Lib.indexByte (bs [40, 41, 91, 93, 44, 124]).data.toList b.toNat.toUInt8 ≥ 0)
def wordb (b : Int) : Bool := (decide (97 ≤ b ∧ b ≤ 122)) || ((decide (65 ≤ b ∧ b ≤ 90)) || ((decide (48 ≤ b ∧ b ≤ 57)) || b == 95))
def figb (b : Int) : Bool := decide (48 ≤ b ∧ b ≤ 57)
def greatb (b : Int) : Bool := (decide (65 ≤ b ∧ b ≤ 90)) || b == 95
def smallb (b : Int) : Bool := decide (97 ≤ b ∧ b ≤ 122)
def okb (n : Nat) (b : Nat) : Bool :=
  (pQ_SymbolByte (n + 100) (b : Int) == some (symb b)) && (pQ_l05Word (n + 100) (b : Int) == some (wordb b)) && (pU_wordByte (n + 100) (b : Int) == some (wordb b)) &&
  (pQ_l05Small (n + 100) (b : Int) == some (smallb b)) && (pU_lower (n + 100) (b : Int) == some (smallb b)) && (pQ_l05Great (n + 100) (b : Int) == some (greatb b)) &&
  (pQ_l05Figure (n + 100) (b : Int) == some (figb b)) && (pU_figure (n + 100) (b : Int) == some (figb b)) && (endb b == (((b : Int) == 32) || (((b : Int) == 9) || (((b : Int) == 10) || ((b : Int) == 37))))) &&
  (markb b == (((b : Int) == 40) || (((b : Int) == 41) || (((b : Int) == 91) || (((b : Int) == 93) || (((b : Int) == 44) || ((b : Int) == 124))))))) && !(symb b && markb b)
theorem okb_all (n : Nat) : (List.range 256).all (okb n) = true := by kernel_rfl
structure ByteOk (k : Nat) (b : Int) : Prop where
  sym : pQ_SymbolByte k b = some (symb b)
  word : pQ_l05Word k b = some (wordb b)
  iword : pU_wordByte k b = some (wordb b)
  small : pQ_l05Small k b = some (smallb b)
  ismall : pU_lower k b = some (smallb b)
  great : pQ_l05Great k b = some (greatb b)
  fig : pQ_l05Figure k b = some (figb b)
  ifig : pU_figure k b = some (figb b)
  ende : endb b = ((b == 32) || ((b == 9) || ((b == 10) || (b == 37))))
  mark : markb b = ((b == 40) || ((b == 41) || ((b == 91) || ((b == 93) || ((b == 44) || (b == 124))))))
  sm : symb b = true → markb b = false
theorem byteOk {k : Nat} (hk : 100 ≤ k) (s : ByteArray) (i : Int) : ByteOk k (bt s i) := by
  obtain ⟨n, rfl⟩ : ∃ n, k = n + 100 := ⟨k - 100, by omega⟩
  have hb := bt_le s i
  obtain ⟨b, hb'⟩ := Int.eq_ofNat_of_zero_le hb.1
  rw [hb'] at hb ⊢
  have h := List.all_eq_true.1 (okb_all n) b (List.mem_range.2 (by omega))
  unfold okb at h
  simp only [Bool.and_eq_true, beq_iff_eq] at h
  obtain ⟨⟨⟨⟨⟨⟨⟨⟨⟨⟨h1, h2⟩, h3⟩, h4⟩, h5⟩, h6⟩, h7⟩, h8⟩, h9⟩, h10⟩, h11⟩ := h
  exact ⟨h1, h2, h3, h4, h5, h6, h7, h8, h9, h10, fun q => by simpa [q] using h11⟩
theorem wr_u8 {x : Int} (h1 : 0 ≤ x) (h2 : x ≤ 255) : wr.u8 x = x := by
  unfold wr.u8 IntKind.wrap
  simp [IntKind.signed, IntKind.bits]
  omega
theorem idx {s : ByteArray} {n : Nat} (h : n < s.size) : 0 ≤ (n : Int) ∧ ((n : Int)).toNat < s.size := ⟨by omega, by simpa using h⟩
theorem lt_t {s : ByteArray} {n : Nat} (h : n < s.size) : decide ((n : Int) < (s.size : Int)) = true := by simpa using h
theorem lt_f {s : ByteArray} {n : Nat} (h : ¬ n < s.size) : ¬ decide ((n : Int) < (s.size : Int)) = true := by simpa using h
theorem wsucc {n : Nat} (h : n ≤ 3000) : wr.i64 ((n : Int) + 1) = ((n + 1 : Nat) : Int) := by rw [wr_i64 (by omega) (by omega)]; omega
def Run (f : Int → Bool) (s : ByteArray) (n p : Nat) : Prop := n ≤ p ∧ p ≤ s.size ∧ (∀ i, n ≤ i → i < p → f (bt s (i : Int)) = true) ∧ (p < s.size → f (bt s (p : Int)) = false)
theorem Run.step {f : Int → Bool} {s : ByteArray} {n p : Nat} (h : f (bt s (n : Int)) = true) (g : Run f s (n + 1) p) : Run f s n p :=
  ⟨by have := g.1; omega, g.2.1, fun i h1 h2 => by
    by_cases c : i = n
    · rw [c]; exact h
    · exact g.2.2.1 i (by omega) h2, g.2.2.2⟩
theorem words {k : Nat} (hk : 100 ≤ k) {s : ByteArray} (hs : s.size ≤ 20) : ∀ (m n : Nat), n ≤ s.size → s.size - n < m → ∃ p : Nat, pQ_l05Run_L1 k s m (n : Int) = some (.done (p : Int)) ∧ pU_run_on2_pU_wordByte_L1 k s m (n : Int) = some (.done (p : Int)) ∧ Run wordb s n p
  | 0, n, h1, h2 => by omega
  | m + 1, n, h1, h2 => by
    rw [pQ_l05Run_L1, pU_run_on2_pU_wordByte_L1]
    by_cases hlt : n < s.size
    · have b := byteOk hk s (n : Int)
      rw [if_pos (lt_t hlt), if_pos (lt_t hlt), if_pos (idx hlt), if_pos (idx hlt), b.word, b.iword, obs, obs]
      cases hb : wordb (bt s (n : Int)) with
      | true =>
        rw [if_pos rfl, if_pos rfl, wsucc (by omega)]
        obtain ⟨p, e1, e2, e3⟩ := words hk hs m (n + 1) (by omega) (by omega)
        exact ⟨p, e1, e2, e3.step hb⟩
      | false => exact ⟨n, rfl, rfl, Nat.le_refl _, h1, fun i _ _ => by omega, fun _ => hb⟩
    · rw [if_neg (lt_f hlt), if_neg (lt_f hlt)]
      exact ⟨n, rfl, rfl, Nat.le_refl _, h1, fun i _ _ => by omega, fun h => absurd h hlt⟩
theorem symbols {k : Nat} (hk : 100 ≤ k) {s : ByteArray} (hs : s.size ≤ 20) : ∀ (m n : Nat), n ≤ s.size → s.size - n < m → ∃ p : Nat, pQ_l05Sign_L5 k s m (n : Int) = some (.done (p : Int)) ∧ pU_run_on2_pU_SymbolByte_L1 k s m (n : Int) = some (.done (p : Int)) ∧ Run symb s n p
  | 0, n, h1, h2 => by omega
  | m + 1, n, h1, h2 => by
    rw [pQ_l05Sign_L5, pU_run_on2_pU_SymbolByte_L1]
    by_cases hlt : n < s.size
    · have b := byteOk hk s (n : Int)
      have ib : pU_SymbolByte k (bt s (n : Int)) = some (symb (bt s (n : Int))) := by unfold pU_SymbolByte pstrings_IndexByte symb; rw [obs]
      rw [if_pos (lt_t hlt), if_pos (lt_t hlt), if_pos (idx hlt), if_pos (idx hlt), b.sym, ib, obs, obs]
      cases hb : symb (bt s (n : Int)) with
      | true =>
        rw [if_pos rfl, if_pos rfl, wsucc (by omega)]
        obtain ⟨p, e1, e2, e3⟩ := symbols hk hs m (n + 1) (by omega) (by omega)
        exact ⟨p, e1, e2, e3.step hb⟩
      | false => exact ⟨n, rfl, rfl, Nat.le_refl _, h1, fun i _ _ => by omega, fun _ => hb⟩
    · rw [if_neg (lt_f hlt), if_neg (lt_f hlt)]
      exact ⟨n, rfl, rfl, Nat.le_refl _, h1, fun i _ _ => by omega, fun h => absurd h hlt⟩
theorem figures {k : Nat} (hk : 100 ≤ k) {s : ByteArray} (hs : s.size ≤ 20) : ∀ (m n : Nat), n ≤ s.size → s.size - n < m → ∃ p : Nat, pU_run_on2_pU_figure_L1 k s m (n : Int) = some (.done (p : Int)) ∧ Run figb s n p
  | 0, n, h1, h2 => by omega
  | m + 1, n, h1, h2 => by
    rw [pU_run_on2_pU_figure_L1]
    by_cases hlt : n < s.size
    · have b := byteOk hk s (n : Int)
      rw [if_pos (lt_t hlt), if_pos (idx hlt), b.ifig, obs]
      cases hb : figb (bt s (n : Int)) with
      | true =>
        rw [if_pos rfl, wsucc (by omega)]
        obtain ⟨p, e1, e3⟩ := figures hk hs m (n + 1) (by omega) (by omega)
        exact ⟨p, e1, e3.step hb⟩
      | false => exact ⟨n, rfl, Nat.le_refl _, h1, fun i _ _ => by omega, fun _ => hb⟩
    · rw [if_neg (lt_f hlt)]
      exact ⟨n, rfl, Nat.le_refl _, h1, fun i _ _ => by omega, fun h => absurd h hlt⟩
theorem number {k : Nat} (hk : 100 ≤ k) {s : ByteArray} (hs : s.size ≤ 20) {p : Nat} : ∀ (m n : Nat) (v : Int), n ≤ p → p - n < m → s.size - n < m → Run figb s n p → 0 ≤ v → v ≤ 9999999999 →
    ∃ i v', pQ_l05Sign_L2 k s m (n : Int) v = some (.done ((i : Nat), v')) ∧ pU_nextSign_L4 k (p : Int) s m v (n : Int) = some (.done v') ∧ (v' ≤ 999999999 → i = p)
  | 0, n, v, h1, h2, h3, h4, h5, h6 => by omega
  | m + 1, n, v, h1, h2, h3, h4, h5, h6 => by
    rw [pQ_l05Sign_L2, pU_nextSign_L4]
    have hps := h4.2.1
    by_cases hp : n < p
    · have hlt : n < s.size := by omega
      have b := byteOk hk s (n : Int)
      have hf := h4.2.2.1 n (Nat.le_refl _) hp
      have hpd : decide ((n : Int) < (p : Int)) = true := by simpa using hp
      rw [if_pos (lt_t hlt), if_pos (idx hlt), b.fig, obs, hf, if_pos rfl, if_pos hpd]
      by_cases c : v ≤ 999999999
      · have cd : decide (v ≤ 999999999) = true := by simpa using c
        simp only [if_pos cd, if_pos (idx hlt), wsucc (show n ≤ 3000 by omega)]
        unfold figb at hf
        have hr := of_decide_eq_true hf
        have w1 : wr.i64 (10 * v) = 10 * v := wr_i64 (by omega) (by omega)
        have w2 : wr.i64 (bt s (n : Int)) = bt s (n : Int) := wr_i64 (by omega) (by omega)
        have w3 : wr.u8 (bt s (n : Int) - 48) = bt s (n : Int) - 48 := by
          exact wr_u8 (by omega) (by omega)
        have w4 : wr.i64 (bt s (n : Int) - 48) = bt s (n : Int) - 48 := wr_i64 (by omega) (by omega)
        rw [w1, w2, w3, w4, wr_i64 (x := 10 * v + bt s (n : Int)) (by omega) (by omega), wr_i64 (x := 10 * v + bt s (n : Int) - 48) (by omega) (by omega), wr_i64 (x := 10 * v + (bt s (n : Int) - 48)) (by omega) (by omega), show 10 * v + (bt s (n : Int) - 48) = 10 * v + bt s (n : Int) - 48 by omega]
        exact number hk hs m (n + 1) _ (by omega) (by omega) (by omega) ⟨by omega, h4.2.1, fun i a b => h4.2.2.1 i (by omega) b, h4.2.2.2⟩ (by omega) (by omega)
      · have cd : ¬ decide (v ≤ 999999999) = true := by simpa using c
        rw [if_neg cd, if_neg cd]
        exact ⟨n, v, rfl, rfl, fun h => absurd h c⟩
    · have hn : n = p := by omega
      subst hn
      have hpd : ¬ decide ((n : Int) < (n : Int)) = true := by simp
      rw [if_neg hpd]
      by_cases hlt : n < s.size
      · have b := byteOk hk s (n : Int)
        rw [if_pos (lt_t hlt), if_pos (idx hlt), b.fig, obs, h4.2.2.2 hlt, if_neg (by decide)]
        exact ⟨n, v, rfl, rfl, fun _ => rfl⟩
      · rw [if_neg (lt_f hlt)]
        exact ⟨n, v, rfl, rfl, fun _ => rfl⟩
theorem ext_size {s : ByteArray} {a b : Nat} (h : b ≤ s.size) : (s.extract a b).size = b - a := by rw [ByteArray.size_extract]; omega
theorem near {k : Nat} {s : ByteArray} {n p : Nat} (hs : s.size ≤ 20) (h1 : n ≤ p) (h2 : p ≤ s.size) {g : GSign} (hg : g.gKind = 1 ∨ g.gKind = 2) :
    pU_nextSign_J1 k (n : Int) s (p : Int) g = some (GSign.mk g.gKind (s.extract n p) g.gNum g.gAt g.gNear, (p : Int)) := by
  unfold pU_nextSign_J1 pU_nextSign_J2
  have hz : ¬ (g.gKind == 0) = true := by rcases hg with h | h <;> rw [h] <;> decide
  have h4 : (g.gKind != 4) = true := by rcases hg with h | h <;> rw [h] <;> decide
  have hd : ¬ decide (((s.extract ((n : Int)).toNat ((p : Int)).toNat).size : Int) > 20) = true := by
    simp only [Int.toNat_natCast, ext_size h2]; rw [decide_eq_true_eq]; omega
  rw [if_pos ⟨by omega, by omega, by omega⟩, if_neg hz, if_pos h4, if_neg hd]
  rfl
theorem bad {k : Nat} {s : ByteArray} {n : Nat} (hs : s.size ≤ 20) (h1 : n < s.size) {e : Int} (he : (n : Int) ≤ e ∧ e ≤ (s.size : Int)) : pU_nextSign_J1 k (n : Int) s e (GSign.mk 0 (bs []) 0 (n : Int) false) = some (GSign.mk 6 (s.extract n (n + 1)) 0 (n : Int) false, ((n + 1 : Nat) : Int)) := by
  unfold pU_nextSign_J1 pU_nextSign_J2
  dsimp only
  rw [if_pos ⟨by omega, he.1, he.2⟩, if_pos (by decide), if_pos rfl, wsucc (by omega), if_pos ⟨by omega, by omega, by omega⟩]
  rfl
theorem mark4 {k : Nat} {s : ByteArray} {n : Nat} (hs : s.size ≤ 20) (h1 : n < s.size) : pU_nextSign_J1 k (n : Int) s (wr.i64 ((n : Int) + 1)) (GSign.mk 4 (bs []) 0 (n : Int) false) = some (GSign.mk 4 (s.extract n (n + 1)) 0 (n : Int) false, ((n + 1 : Nat) : Int)) := by
  unfold pU_nextSign_J1 pU_nextSign_J2
  dsimp only
  rw [wsucc (by omega), if_pos ⟨by omega, by omega, by omega⟩, if_neg (by decide), if_neg (by decide), if_neg (by decide)]
  rfl
def fin (s : ByteArray) (n : Nat) : Bool := (bt s (n : Int) == 46) && ((n == 0 || !symb (bt s ((n - 1 : Nat) : Int))) && (n + 1 == s.size || endb (bt s ((n + 1 : Nat) : Int))))
theorem ends {k : Nat} (hk : 100 ≤ k) {s : ByteArray} (hs : s.size ≤ 20) (hn10 : ∀ i : Nat, i < s.size → gb s i) {n : Nat} (h : n < s.size) : pQ_l05End k s (n : Int) = some (fin s n) ∧ pU_endsHere k s (n : Int) = some (fin s n) := by
  have tailS : n + 1 ≠ s.size → (pQ_l05Blank k (bt s ((n + 1 : Nat) : Int))).bind (fun e => if e = true then some true else if 0 ≤ ((n + 1 : Nat) : Int) ∧ (((n + 1 : Nat) : Int)).toNat < s.size then some ((bt s ((n + 1 : Nat) : Int)) == 37) else none) = some (endb (bt s ((n + 1 : Nat) : Int))) := fun hq => by
    have b := byteOk hk s ((n + 1 : Nat) : Int)
    rw [b.ende]
    unfold pQ_l05Blank
    rw [if_pos (idx (show n + 1 < s.size by omega))]
    cases bt s ((n + 1 : Nat) : Int) == 32 <;> cases bt s ((n + 1 : Nat) : Int) == 9 <;> cases bt s ((n + 1 : Nat) : Int) == 10 <;> rfl
  have J1 : pU_endsHere_J1 k (n : Int) s = some (n + 1 == s.size || endb (bt s ((n + 1 : Nat) : Int))) := by
    unfold pU_endsHere_J1
    rw [wsucc (by omega)]
    by_cases hq : n + 1 = s.size
    · rw [if_pos (by rw [beq_iff_eq]; omega), show (n + 1 == s.size) = true from by rw [beq_iff_eq]; exact hq]; rfl
    · rw [if_neg (by rw [beq_iff_eq]; omega), if_pos (idx (show n + 1 < s.size by omega)), show (n + 1 == s.size) = false from by rw [beq_eq_false_iff_ne]; exact hq]
      unfold pstrings_IndexByte endb
      rw [obs]; rfl
  have tS : (if (((n + 1 : Nat) : Int) == (s.size : Int)) = true then some true else if 0 ≤ ((n + 1 : Nat) : Int) ∧ (((n + 1 : Nat) : Int)).toNat < s.size then (pQ_l05Blank k (bt s ((n + 1 : Nat) : Int))).bind (fun e => if e = true then some true else if 0 ≤ ((n + 1 : Nat) : Int) ∧ (((n + 1 : Nat) : Int)).toNat < s.size then some ((bt s ((n + 1 : Nat) : Int)) == 37) else none) else none) = some (n + 1 == s.size || endb (bt s ((n + 1 : Nat) : Int))) := by
    by_cases hq : n + 1 = s.size
    · rw [if_pos (by rw [beq_iff_eq]; omega), show (n + 1 == s.size) = true from by rw [beq_iff_eq]; exact hq]; rfl
    · rw [if_neg (by rw [beq_iff_eq]; omega), if_pos (idx (show n + 1 < s.size by omega)), show (n + 1 == s.size) = false from by rw [beq_eq_false_iff_ne]; exact hq, tailS hq]; rfl
  unfold pQ_l05End pU_endsHere fin
  rw [if_pos (idx h), if_pos (idx h), wsucc (by omega)]
  cases h46 : bt s (n : Int) == 46 with
  | false =>
    have : (bt s (n : Int) != 46) = true := by unfold bne; rw [h46]; rfl
    rw [if_neg (by decide), if_pos this]; exact ⟨rfl, rfl⟩
  | true =>
    have : ¬ (bt s (n : Int) != 46) = true := by unfold bne; rw [h46]; decide
    rw [if_pos rfl, if_neg this]
    by_cases h0 : n = 0
    · subst h0
      rw [if_pos (by decide), tS, if_neg (by decide), J1]
      exact ⟨rfl, rfl⟩
    · have hm : wr.i64 ((n : Int) - 1) = ((n - 1 : Nat) : Int) := by rw [wr_i64 (by omega) (by omega)]; omega
      have b := byteOk hk s ((n - 1 : Nat) : Int)
      have ib : pU_SymbolByte k (bt s ((n - 1 : Nat) : Int)) = some (symb (bt s ((n - 1 : Nat) : Int))) := by unfold pU_SymbolByte pstrings_IndexByte symb; rw [obs]
      have hn0 : ¬ ((n : Int) == 0) = true := by rw [beq_iff_eq]; omega
      have hpos : decide ((n : Int) > 0) = true := by rw [decide_eq_true_eq]; omega
      rw [if_neg hn0, hm, if_pos (idx (show n - 1 < s.size by omega)), b.sym, obs, if_pos hpos, if_pos (idx (show n - 1 < s.size by omega)), ib, obs, J1, show (n == 0) = false from by rw [beq_eq_false_iff_ne]; exact h0]
      cases symb (bt s ((n - 1 : Nat) : Int)) with
      | true => exact ⟨rfl, rfl⟩
      | false =>
        simp only [Bool.not_false, if_true, Bool.false_eq_true, if_false]
        rw [tS]; exact ⟨rfl, rfl⟩
theorem ext_one {s : ByteArray} {n : Nat} (h : n < s.size) (hb : bt s (n : Int) = 46) : s.extract n (n + 1) = bs [46] := by
  have e : s[n] = 46 := by
    unfold bt at hb
    rw [Int.toNat_natCast, getElem?_pos s n h, Option.getD_some] at hb
    have : s[n].toNat = 46 := by omega
    exact UInt8.toNat_inj.1 this
  apply ByteArray.ext
  rw [ByteArray.data_extract]
  apply Array.ext
  · have : s.data.size = s.size := rfl
    simp [bs]; omega
  · intro i h1 h2
    have : i = 0 := by simp [bs] at h2; omega
    subst this
    simp [bs]
    exact e
theorem sign {k : Nat} (hk : 3000 ≤ k) {s : ByteArray} (hs : nmOk s) {n : Nat} (h : n < s.size) : ∃ g : GSign, ∃ p : Nat, pU_nextSign k s (n : Int) = some (g, (p : Int)) ∧ pQ_l05Sign k s (n : Int) = some (g, (p : Int)) ∧ n < p ∧ p ≤ s.size := by
  have hz := hs.2.2
  have hk' : 100 ≤ k := by omega
  have b := byteOk hk' s (n : Int)
  have hg := hs.1 n h
  obtain ⟨hE, hI⟩ := ends hk' hz hs.1 h
  have w1 : wr.i64 ((n : Int) + 1) = ((n + 1 : Nat) : Int) := wsucc (by omega)
  have ib : pU_SymbolByte k (bt s (n : Int)) = some (symb (bt s (n : Int))) := by unfold pU_SymbolByte pstrings_IndexByte symb; rw [obs]
  have one : s.extract n (n + 1) = s.extract (n : Int).toNat ((n + 1 : Nat) : Int).toNat := rfl
  obtain ⟨pw, ew1, ew2, ew3⟩ := words hk' hz k n (by omega) (by omega)
  obtain ⟨ps, es1, es2, es3⟩ := symbols hk' hz k n (by omega) (by omega)
  obtain ⟨pf, ef1, ef2⟩ := figures hk' hz k n (by omega) (by omega)
  have hup : pU_upper k (bt s (n : Int)) = some (decide (65 ≤ bt s (n : Int) ∧ bt s (n : Int) ≤ 90)) := by
    unfold pU_upper
    by_cases c : 65 ≤ bt s (n : Int)
    · rw [if_pos (by simpa using c)]; simp [c]
    · rw [if_neg (by simpa using c)]; simp [c]
  have hws : smallb (bt s (n : Int)) = true ∨ greatb (bt s (n : Int)) = true → wordb (bt s (n : Int)) = true := by
    unfold smallb greatb wordb; simp; omega
  have stop : ∀ {f : Int → Bool} {p : Nat}, Run f s n p → f (bt s (n : Int)) = true → n < p := fun {f p} r hf => by
    rcases Nat.lt_or_ge n p with q | q
    · exact q
    · have : p = n := by have := r.1; omega
      subst this
      rw [r.2.2.2 h] at hf; cases hf
  -- a word
  have W : smallb (bt s (n : Int)) = true ∨ greatb (bt s (n : Int)) = true → ∃ g : GSign, pU_nextSign_J3 k s (n : Int) true = some (g, (pw : Int)) ∧ pQ_l05Sign_J1 k s (n : Int) true = some (g, (pw : Int)) ∧ n < pw ∧ pw ≤ s.size := by
    intro hw
    have hlt := stop ew3 (hws hw)
    have hps := ew3.2.1
    unfold pU_nextSign_J3 pQ_l05Sign_J1 pU_run_on2_pU_wordByte pQ_l05Run
    have h20 : decide ((pw : Int) - (n : Int) ≤ 20) = true := by rw [decide_eq_true_eq]; omega
    simp only [if_true, ew1, ew2, obs, b.ismall, b.great]
    rw [wr_i64 (x := (pw : Int) - (n : Int)) (by omega) (by omega), if_pos h20]
    cases hgr : greatb (bt s (n : Int)) with
    | true =>
      have hsm : smallb (bt s (n : Int)) = false := by
        unfold greatb at hgr; unfold smallb; simp at hgr ⊢; omega
      simp only [hsm, Bool.false_eq_true, if_false, if_true]
      rw [if_pos ⟨by omega, by omega, by omega⟩, near hz (by omega) hps (.inr rfl)]
      exact ⟨_, rfl, rfl, hlt, hps⟩
    | false =>
      have hsm : smallb (bt s (n : Int)) = true := by rcases hw with hw | hw; exact hw; rw [hw] at hgr; cases hgr
      simp only [hsm, Bool.false_eq_true, if_false, if_true]
      rw [if_pos ⟨by omega, by omega, by omega⟩, near hz (by omega) hps (.inl rfl)]
      exact ⟨_, rfl, rfl, hlt, hps⟩
  -- all else
  have J4 : ∀ e : Bool, smallb (bt s (n : Int)) = false → e = markb (bt s (n : Int)) → fin s n = false → (bt s (n : Int) == 33) = false → (bt s (n : Int) == 59) = false → greatb (bt s (n : Int)) = false → figb (bt s (n : Int)) = false →
      ∃ g : GSign, ∃ p : Nat, pU_nextSign_J3 k s (n : Int) false = some (g, (p : Int)) ∧ pQ_l05Sign_J4 k s (n : Int) e = some (g, (p : Int)) ∧ n < p ∧ p ≤ s.size := by
    intro e _ he hf h33 h59 _ hfig
    unfold pU_nextSign_J3 pQ_l05Sign_J4
    rw [if_neg (by decide), b.ifig, obs, hfig, if_neg (by decide), ib, obs, hE, obs, hf, w1]
    subst he
    cases hsy : symb (bt s (n : Int)) with
    | true =>
      have hmk : markb (bt s (n : Int)) = false := b.sm hsy
      have hlt := stop es3 hsy
      have hps := es3.2.1
      unfold pU_run_on2_pU_SymbolByte
      have h20 : decide ((ps : Int) - (n : Int) ≤ 20) = true := by rw [decide_eq_true_eq]; omega
      simp only [hmk, if_true, Bool.false_eq_true, if_false, b.sym, hsy, es1, es2, obs]
      rw [wr_i64 (x := (ps : Int) - (n : Int)) (by omega) (by omega), if_pos h20, if_pos ⟨by omega, by omega, by omega⟩, near hz (by omega) hps (.inl rfl)]
      exact ⟨_, _, rfl, rfl, hlt, hps⟩
    | false =>
      unfold pU_nextSign_J5 pstrings_IndexByte
      rw [if_neg (by decide), h33, if_neg (by decide), h59, if_neg (by decide), obs]
      cases hmk : markb (bt s (n : Int)) with
      | true =>
        have : decide (Lib.indexByte (bs [40, 41, 91, 93, 44, 124]).data.toList (bt s (n : Int)).toNat.toUInt8 ≥ 0) = true := hmk
        rw [if_pos this, if_pos rfl, mark4 hz h]
        exact ⟨_, _, rfl, rfl, by omega, by omega⟩
      | false =>
        have : ¬ decide (Lib.indexByte (bs [40, 41, 91, 93, 44, 124]).data.toList (bt s (n : Int)).toNat.toUInt8 ≥ 0) = true := by
          have : markb (bt s (n : Int)) = false := hmk
          unfold markb at this
          rw [this]; decide
        have h39 : ¬ (bt s (n : Int) == 39) = true := by rw [beq_iff_eq]; exact hg.2.2.1
        rw [if_neg this, if_neg h39, if_neg (by decide), if_neg (by decide), b.sym, obs, hsy, if_neg (by decide), w1, bad hz h (by omega)]
        exact ⟨_, _, rfl, rfl, by omega, by omega⟩
  have F : figb (bt s (n : Int)) = true → fin s n = false → ∃ g : GSign, ∃ p : Nat, pU_nextSign_J3 k s (n : Int) false = some (g, (p : Int)) ∧ pQ_l05Sign_J1 k s (n : Int) false = some (g, (p : Int)) ∧ n < p ∧ p ≤ s.size := by
    intro hf _
    have hlt := stop ef2 hf
    have hps := ef2.2.1
    obtain ⟨i, v, q1, q2, q3⟩ := number hk' hz (p := pf) k n 0 (by omega) (by omega) (by omega) ef2 (by omega) (by omega)
    unfold pU_nextSign_J3 pQ_l05Sign_J1 pU_run_on2_pU_figure
    simp only [Bool.false_eq_true, if_false, if_true, b.ifig, b.fig, hf, ef1, obs, q1, q2]
    by_cases c : v ≤ 999999999
    · have cd : decide (v ≤ 999999999) = true := by simpa using c
      rw [if_pos cd, if_pos cd, q3 c]
      exact ⟨_, _, rfl, rfl, hlt, hps⟩
    · have cd : ¬ decide (v ≤ 999999999) = true := by simpa using c
      rw [if_neg cd, if_neg cd, w1, bad hz h (by omega)]
      exact ⟨_, _, rfl, rfl, by omega, by omega⟩
  have S : pQ_l05Sign k s (n : Int) = pQ_l05Sign_J1 k s (n : Int) (smallb (bt s (n : Int)) || greatb (bt s (n : Int))) := by
    unfold pQ_l05Sign
    rw [if_pos (idx h), w1, if_pos ⟨by omega, by omega, by omega⟩, b.small, obs, b.great]
    cases smallb (bt s (n : Int)) with
    | true => rfl
    | false => rw [if_neg (by decide), obs]; rfl
  have I : fin s n = false → pU_nextSign k s (n : Int) = pU_nextSign_J3 k s (n : Int) (smallb (bt s (n : Int)) || greatb (bt s (n : Int))) := by
    intro hf
    unfold pU_nextSign
    rw [if_pos (idx h), hI, obs, hf, if_neg (by decide), b.ismall, obs, hup, obs]
    unfold greatb
    cases smallb (bt s (n : Int)) with
    | true => rfl
    | false => cases decide (65 ≤ bt s (n : Int) ∧ bt s (n : Int) ≤ 90) <;> rfl
  have h39 : ¬ (bt s (n : Int) == 39) = true := by rw [beq_iff_eq]; exact hg.2.2.1
  have M : figb (bt s (n : Int)) = false → (bt s (n : Int) == 33) = false → (bt s (n : Int) == 59) = false → pQ_l05Sign_J1 k s (n : Int) false = pQ_l05Sign_J4 k s (n : Int) (markb (bt s (n : Int))) := by
    intro hf h33 h59
    unfold pQ_l05Sign_J1 pQ_l05Sign_J3
    rw [b.mark]
    simp only [Bool.false_eq_true, if_false, b.fig, hf, obs, if_neg h39, h33, h59]
    cases bt s (n : Int) == 40 <;> cases bt s (n : Int) == 41 <;> cases bt s (n : Int) == 91 <;> cases bt s (n : Int) == 93 <;> cases bt s (n : Int) == 44 <;> rfl
  cases hf : fin s n with
  | true =>
    have h46 : bt s (n : Int) = 46 := by
      unfold fin at hf
      simp only [Bool.and_eq_true, beq_iff_eq] at hf
      exact hf.1
    refine ⟨GSign.mk 5 (bs [46]) 0 (n : Int) false, n + 1, ?_, ?_, by omega, by omega⟩
    · unfold pU_nextSign
      rw [if_pos (idx h), hI, obs, hf, if_pos rfl, w1]
    · rw [S, h46, show (smallb 46 || greatb 46) = false from rfl, M (by rw [h46]; rfl) (by rw [h46]; rfl) (by rw [h46]; rfl), h46, show markb 46 = false from by decide]
      unfold pQ_l05Sign_J4
      rw [if_neg (by decide), hE, obs, hf, if_pos rfl, w1]
      show some (GSign.mk 5 (s.extract n (n + 1)) 0 (n : Int) false, _) = _
      rw [ext_one h h46]
  | false =>
    rw [I hf, S]
    cases hsm : smallb (bt s (n : Int)) with
    | true => obtain ⟨g, x1, x2, x3, x4⟩ := W (.inl hsm); exact ⟨g, pw, x1, x2, x3, x4⟩
    | false =>
      cases hgr : greatb (bt s (n : Int)) with
      | true => obtain ⟨g, x1, x2, x3, x4⟩ := W (.inr hgr); exact ⟨g, pw, x1, x2, x3, x4⟩
      | false =>
        show ∃ g : GSign, ∃ p : Nat, pU_nextSign_J3 k s (n : Int) false = some (g, (p : Int)) ∧ pQ_l05Sign_J1 k s (n : Int) false = some (g, (p : Int)) ∧ n < p ∧ p ≤ s.size
        cases hfg : figb (bt s (n : Int)) with
        | true => exact F hfg hf
        | false =>
          by_cases h33 : bt s (n : Int) = 33 ∨ bt s (n : Int) = 59
          · refine ⟨GSign.mk 1 (s.extract n (n + 1)) 0 (n : Int) false, n + 1, ?_, ?_, by omega, by omega⟩
            · have hsy : symb (bt s (n : Int)) = false := by rcases h33 with q | q <;> rw [q] <;> decide
              have hx : (if (bt s (n : Int) == 33) = true then pU_nextSign_J5 k (n : Int) s true else pU_nextSign_J5 k (n : Int) s (bt s (n : Int) == 59)) = pU_nextSign_J5 k (n : Int) s true := by
                rcases h33 with q | q <;> rw [q] <;> rfl
              unfold pU_nextSign_J3
              rw [if_neg (by decide), b.ifig, obs, hfg, if_neg (by decide), ib, obs, hsy, if_neg (by decide), hx]
              unfold pU_nextSign_J5
              rw [if_pos rfl, w1, near hz (by omega) (by omega) (.inl rfl)]
            · unfold pQ_l05Sign_J1
              have hx : (if (bt s (n : Int) == 33) = true then pQ_l05Sign_J3 k s (n : Int) true else pQ_l05Sign_J3 k s (n : Int) (bt s (n : Int) == 59)) = pQ_l05Sign_J3 k s (n : Int) true := by
                rcases h33 with q | q <;> rw [q] <;> rfl
              rw [if_neg (by decide), b.fig, obs, hfg, if_neg (by decide), if_neg h39, hx]
              unfold pQ_l05Sign_J3
              rw [if_pos rfl, w1]; rfl
          · have a33 : (bt s (n : Int) == 33) = false := by rw [beq_eq_false_iff_ne]; exact fun q => h33 (.inl q)
            have a59 : (bt s (n : Int) == 59) = false := by rw [beq_eq_false_iff_ne]; exact fun q => h33 (.inr q)
            rw [M hfg a33 a59]
            exact J4 _ hsm rfl hf a33 a59 hgr hfg
theorem rest10 {k : Nat} {s : ByteArray} (hs : nmOk s) : ∀ (m n : Nat), n ≤ s.size → s.size - n < m → pQ_SignsOf_L2 k s m (n : Int) = some (.done (s.size : Int)) ∧ pU_run_on2_pU_SignsOf_1_L1 k s m (n : Int) = some (.done (s.size : Int))
  | 0, n, h1, h2 => by omega
  | m + 1, n, h1, h2 => by
    have hz := hs.2.2
    rw [pQ_SignsOf_L2, pU_run_on2_pU_SignsOf_1_L1]
    by_cases hlt : n < s.size
    · have hg := hs.1 n hlt
      have h10 : (bt s (n : Int) != 10) = true := by rw [bne_iff_ne]; have := hg.1; omega
      unfold pU_SignsOf_1
      rw [if_pos (lt_t hlt), if_pos (lt_t hlt), if_pos (idx hlt), if_pos (idx hlt), obs, h10, if_pos rfl, if_pos rfl, wsucc (by omega)]
      exact rest10 hs m (n + 1) (by omega) (by omega)
    · rw [if_neg (lt_f hlt), if_neg (lt_f hlt)]
      have : n = s.size := by omega
      rw [this]; exact ⟨rfl, rfl⟩
theorem signs_L1 {k : Nat} (hk : 3000 ≤ k) {s : ByteArray} (hs : nmOk s) : ∀ (m n : Nat) (g : List GSign), n ≤ s.size → s.size - n < m → g.length ≤ n → ∃ g', pQ_SignsOf_L1 k s m g (n : Int) = some (.done g') ∧ pU_SignsOf_L1 k s m g (n : Int) = some (.done g')
  | 0, n, g, h1, h2, h3 => by omega
  | m + 1, n, g, h1, h2, h3 => by
    have hz := hs.2.2
    rw [pQ_SignsOf_L1, pU_SignsOf_L1]
    by_cases hlt : n < s.size
    · have hg := hs.1 n hlt
      have h32 : (bt s (n : Int) == 32) = false := by rw [beq_eq_false_iff_ne]; have := hg.1; omega
      have h9 : (bt s (n : Int) == 9) = false := by rw [beq_eq_false_iff_ne]; have := hg.1; omega
      have h10 : (bt s (n : Int) == 10) = false := by rw [beq_eq_false_iff_ne]; have := hg.1; omega
      have hbl : pQ_l05Blank k (bt s (n : Int)) = some false := by unfold pQ_l05Blank; rw [h32, if_neg (by decide), h9, if_neg (by decide), h10]
      rw [if_pos (lt_t hlt), if_pos (lt_t hlt), if_pos (idx hlt), if_pos (idx hlt), hbl, obs, if_neg Bool.false_ne_true, if_pos (idx hlt), h32, if_neg Bool.false_ne_true, h9, if_neg Bool.false_ne_true, h10]
      unfold pU_SignsOf_J2
      rw [if_neg Bool.false_ne_true]
      by_cases h37 : (bt s (n : Int) == 37) = true
      · obtain ⟨r1, r2⟩ := rest10 (k := k) hs k n h1 (by omega)
        unfold pU_run_on2_pU_SignsOf_1
        rw [if_pos h37, if_pos h37, r1, r2, obs, obs]
        have ih := signs_L1 hk hs m s.size g (Nat.le_refl _) (by omega) (by omega)
        simpa only [obs] using ih
      · obtain ⟨q, p, e1, e2, hp, hps⟩ := sign hk hs hlt
        rw [if_neg h37, if_neg h37, e1, e2, obs, obs]
        simp only
        by_cases hlp : p < s.size
        · rw [if_pos (lt_t hlp), if_pos (lt_t hlp), if_pos (idx hlp), if_pos (idx hlp)]
          have hle : ∀ z : GSign, g.length + [z].length ≤ 1073741824 := fun z => by simp only [List.length_cons, List.length_nil]; omega
          rw [if_pos (hle _), if_pos (hle _)]
          exact signs_L1 hk hs m p _ hps (by omega) (by simp only [List.length_append, List.length_cons, List.length_nil]; omega)
        · have hle : ∀ z : GSign, g.length + [z].length ≤ 1073741824 := fun z => by simp only [List.length_cons, List.length_nil]; omega
          rw [if_neg (lt_f hlp), if_neg (lt_f hlp), if_pos (hle _), if_pos (hle _)]
          exact signs_L1 hk hs m p _ hps (by omega) (by simp only [List.length_append, List.length_cons, List.length_nil]; omega)
    · rw [if_neg (lt_f hlt), if_neg (lt_f hlt)]
      exact ⟨g, rfl, rfl⟩
theorem atomText {k : Nat} (hk : 3000 ≤ k) {s : ByteArray} (hs : nmOk s) : ∃ r, pQ_AtomText k s = some r ∧ pU_AtomText k s = some r ∧ r.size ≤ 22 := by
  have hz := hs.2.2
  obtain ⟨g, e1, e2⟩ := signs_L1 hk hs k 0 [] (by omega) (by omega) (by simp)
  rw [show ((0 : Nat) : Int) = 0 from rfl] at e1 e2
  have f1 : pQ_SignsOf k s = some (g, true) := by
    unfold pQ_SignsOf
    rw [if_neg (by rw [decide_eq_true_eq]; omega), e1]; rfl
  have f2 : pU_SignsOf k s = some (g, true) := by
    unfold pU_SignsOf
    rw [if_neg (by rw [decide_eq_true_eq]; omega), e2]; rfl
  have z1 : (bs [39]).size = 1 := by decide
  have s1 : sumOk (bs [39]) s := by unfold sumOk; omega
  have s2 : sumOk (bs [39] ++ s) (bs [39]) := by unfold sumOk; rw [ByteArray.size_append]; omega
  have hq : (bs [39] ++ s ++ bs [39]).size ≤ 22 := by rw [ByteArray.size_append, ByteArray.size_append]; omega
  unfold pQ_AtomText pU_AtomText
  rw [f1, f2, obs, obs]
  simp only [if_pos s1, if_pos s2, if_true]
  by_cases hl : g.length = 1
  · have hl' : ((g.length : Int) == 1) = true := by rw [beq_iff_eq]; omega
    rw [if_pos hl']
    have a0 : at' g 0 = some g[0] := at_lt (n := 0) (by omega)
    simp only [a0, obs]
    split
    · split
      · exact ⟨_, rfl, rfl, by omega⟩
      · exact ⟨_, rfl, rfl, hq⟩
    · exact ⟨_, rfl, rfl, hq⟩
  · have hl' : ¬ ((g.length : Int) == 1) = true := by rw [beq_iff_eq]; omega
    rw [if_neg hl']
    exact ⟨_, rfl, rfl, hq⟩
theorem Run.uniq {f : Int → Bool} {s : ByteArray} {n p q : Nat} (a : Run f s n p) (b : Run f s n q) : p = q := by
  rcases Nat.lt_trichotomy p q with h | h | h
  · have := b.2.2.1 p a.1 h
    rw [a.2.2.2 (by have := b.2.1; omega)] at this; cases this
  · exact h
  · have := a.2.2.1 q b.1 h
    rw [b.2.2.2 (by have := a.2.1; omega)] at this; cases this
theorem L4K {kA kB : Nat} {s : ByteArray} {p : Nat} (hp : p ≤ s.size) (hs : s.size ≤ 20) : ∀ (mA mB n : Nat) (v : Int), n ≤ p → p - n < mA → p - n < mB → pU_nextSign_L4 kA (p : Int) s mA v (n : Int) = pU_nextSign_L4 kB (p : Int) s mB v (n : Int)
  | 0, mB, n, v, h0, h1, h2 => by omega
  | mA + 1, 0, n, v, h0, h1, h2 => by omega
  | mA + 1, mB + 1, n, v, h0, h1, h2 => by
    rw [pU_nextSign_L4, pU_nextSign_L4]
    by_cases hlt : n < p
    · have hd : decide ((n : Int) < (p : Int)) = true := by simpa using hlt
      rw [if_pos hd, if_pos hd, wsucc (by omega), L4K hp hs mA mB (n + 1) _ (by omega) (by omega) (by omega)]
    · have hd : ¬ decide ((n : Int) < (p : Int)) = true := by simpa using hlt
      rw [if_neg hd, if_neg hd]
theorem nextK {kA kB : Nat} (hA : 3000 ≤ kA) (hB : 3000 ≤ kB) {s : ByteArray} (hs : nmOk s) {n : Nat} (h : n < s.size) : pU_nextSign kA s (n : Int) = pU_nextSign kB s (n : Int) := by
  have hz := hs.2.2
  obtain ⟨pw, _, a1, a2⟩ := words (k := kA) (by omega) hz kA n (by omega) (by omega)
  obtain ⟨pw', _, b1, b2⟩ := words (k := kB) (by omega) hz kB n (by omega) (by omega)
  obtain rfl := a2.uniq b2
  obtain ⟨ps, _, c1, c2⟩ := symbols (k := kA) (by omega) hz kA n (by omega) (by omega)
  obtain ⟨ps', _, d1, d2⟩ := symbols (k := kB) (by omega) hz kB n (by omega) (by omega)
  obtain rfl := c2.uniq d2
  obtain ⟨pf, e1, e2⟩ := figures (k := kA) (by omega) hz kA n (by omega) (by omega)
  obtain ⟨pf', f1, f2⟩ := figures (k := kB) (by omega) hz kB n (by omega) (by omega)
  obtain rfl := e2.uniq f2
  have g1 := L4K (kA := kA) (kB := kB) (p := pf) (s := s) e2.2.1 hz kA kB n 0 e2.1 (by have := e2.2.1; omega) (by have := e2.2.1; omega)
  have h39 : ¬ (bt s (n : Int) == 39) = true := by rw [beq_iff_eq]; exact (hs.1 n h).2.2.1
  have J5 : ∀ e, pU_nextSign_J5 kA (n : Int) s e = pU_nextSign_J5 kB (n : Int) s e := fun e => by
    unfold pU_nextSign_J5
    simp only [if_neg h39]
    rfl
  have J3 : ∀ e, pU_nextSign_J3 kA s (n : Int) e = pU_nextSign_J3 kB s (n : Int) e := fun e => by
    unfold pU_nextSign_J3 pU_run_on2_pU_wordByte pU_run_on2_pU_figure pU_run_on2_pU_SymbolByte
    simp only [a1, b1, c1, d1, e1, f1, obs, g1, J5]
    rfl
  unfold pU_nextSign
  simp only [J3]
  rfl
theorem signsK {kA kB : Nat} (hA : 3000 ≤ kA) (hB : 3000 ≤ kB) {s : ByteArray} (hs : nmOk s) : ∀ (mA mB n : Nat) (g : List GSign), n ≤ s.size → s.size - n < mA → s.size - n < mB → pU_SignsOf_L1 kA s mA g (n : Int) = pU_SignsOf_L1 kB s mB g (n : Int)
  | 0, mB, n, g, h1, h2, h3 => by omega
  | mA + 1, 0, n, g, h1, h2, h3 => by omega
  | mA + 1, mB + 1, n, g, h1, h2, h3 => by
    have hz := hs.2.2
    rw [pU_SignsOf_L1, pU_SignsOf_L1]
    by_cases hlt : n < s.size
    · have hg := hs.1 n hlt
      have h32 : (bt s (n : Int) == 32) = false := by rw [beq_eq_false_iff_ne]; have := hg.1; omega
      have h9 : (bt s (n : Int) == 9) = false := by rw [beq_eq_false_iff_ne]; have := hg.1; omega
      have h10 : (bt s (n : Int) == 10) = false := by rw [beq_eq_false_iff_ne]; have := hg.1; omega
      rw [if_pos (lt_t hlt), if_pos (lt_t hlt), if_pos (idx hlt), if_pos (idx hlt)]
      simp only [h32, h9, h10, Bool.false_eq_true, if_false]
      unfold pU_SignsOf_J2
      simp only [Bool.false_eq_true, if_false]
      by_cases h37 : (bt s (n : Int) == 37) = true
      · obtain ⟨_, r1⟩ := rest10 (k := kA) hs kA n h1 (by omega)
        obtain ⟨_, r2⟩ := rest10 (k := kB) hs kB n h1 (by omega)
        unfold pU_run_on2_pU_SignsOf_1
        rw [if_pos h37, if_pos h37, r1, r2]
        simp only [obs]
        exact signsK hA hB hs mA mB s.size g (Nat.le_refl _) (by omega) (by omega)
      · obtain ⟨q, p, e1, _, hp, hps⟩ := sign hB hs hlt
        rw [if_neg h37, if_neg h37, nextK hA hB hs hlt, e1, obs, obs]
        simp only
        by_cases hlp : p < s.size
        · rw [if_pos (lt_t hlp), if_pos (lt_t hlp), if_pos (idx hlp), if_pos (idx hlp), signsK hA hB hs mA mB p _ hps (by omega) (by omega)]
        · rw [if_neg (lt_f hlp), if_neg (lt_f hlp), signsK hA hB hs mA mB p _ hps (by omega) (by omega)]
    · rw [if_neg (lt_f hlt), if_neg (lt_f hlt)]
theorem atomK {kA kB : Nat} (hA : 3000 ≤ kA) (hB : 3000 ≤ kB) {s : ByteArray} (hs : nmOk s) : pU_AtomText kA s = pU_AtomText kB s := by
  have hz := hs.2.2
  have e := signsK hA hB hs kA kB 0 [] (by omega) (by omega) (by omega)
  rw [show ((0 : Nat) : Int) = 0 from rfl] at e
  unfold pU_AtomText pU_SignsOf
  rw [e]
theorem atom2 {kA kB : Nat} (hA : 3000 ≤ kA) (hB : 3000 ≤ kB) {s : ByteArray} (hs : nmOk s) : ∃ r, pQ_AtomText kB s = some r ∧ pU_AtomText kA s = some r ∧ r.size ≤ 22 := by
  obtain ⟨r, e1, e2, e3⟩ := atomText hB hs
  exact ⟨r, e1, (atomK hA hB hs).trans e2, e3⟩
def decB (n : Nat) : ByteArray := ⟨(Lib.decDigits n).toArray⟩
theorem strOne (b : Nat) (h : b < 10) : strOfNums [((48 + b : Nat) : Int)] = bs [UInt8.ofNat (48 + b)] := by
  have : ∀ b, b < 10 → strOfNums [((48 + b : Nat) : Int)] = bs [UInt8.ofNat (48 + b)] := by decide +kernel
  exact this b h
theorem wr_u8d {x : Int} (h1 : 0 ≤ x) (h2 : x ≤ 255) : wr.u8 x = x := by
  unfold wr.u8 IntKind.wrap
  simp [IntKind.signed, IntKind.bits]
  omega
theorem decB_small {n : Nat} (h : n < 10) : decB n = bs [UInt8.ofNat (48 + n)] := by
  unfold decB
  rw [Lib.decDigits, dif_pos h]; rfl
theorem decB_big {n : Nat} (h : ¬ n < 10) : decB n = decB (n / 10) ++ bs [UInt8.ofNat (48 + n % 10)] := by
  unfold decB
  rw [Lib.decDigits, dif_neg h]
  apply ByteArray.ext
  simp [bs]
theorem decB_size : ∀ (j n : Nat), n < 10 ^ (j + 1) → (decB n).size ≤ j + 1
  | 0, n, h => by rw [decB_small (by simpa using h)]; exact Nat.le_refl _
  | j + 1, n, h => by
    by_cases c : n < 10
    · rw [decB_small c, show (bs [UInt8.ofNat (48 + n)]).size = 1 from rfl]; omega
    · have := decB_size j (n / 10) (by rw [Nat.pow_succ] at h; omega)
      rw [decB_big c, ByteArray.size_append, show (bs [UInt8.ofNat (48 + n % 10)]).size = 1 from rfl]; omega
theorem dec_L1 {k : Nat} : ∀ (j m n : Nat) (s : ByteArray), n < 10 ^ j → j < m → j ≤ 12 → s.size + j ≤ 100 → 0 < n → pQ_Decimal_L1 k m (n : Int) s = some (.done (decB n ++ s))
  | 0, m, n, s, h1, h2, _, _, h0 => by simp at h1; omega
  | j + 1, 0, n, s, h1, h2, _, _, h0 => by omega
  | j + 1, m + 1, n, s, h1, h2, h3, h4, h0 => by
    have hp : 10 ^ j ≤ 10 ^ 11 := Nat.pow_le_pow_right (by decide) (by omega)
    rw [Nat.pow_succ] at h1
    have hn : (n : Int) ≤ 1000000000000 := by omega
    have t1 : Int.tmod (n : Int) 10 = ((n % 10 : Nat) : Int) := by rw [Int.tmod_eq_emod_of_nonneg (by omega)]; rfl
    have t2 : Int.tdiv (n : Int) 10 = ((n / 10 : Nat) : Int) := by rw [Int.tdiv_eq_ediv_of_nonneg (by omega)]; rfl
    have hne : ((n : Int) != 0) = true := by rw [bne_iff_ne]; omega
    have hnn : ¬ decide (Int.tmod (n : Int) 10 < 0) = true := by rw [t1, decide_eq_true_eq]; omega
    have hlt : decide (((n % 10 : Nat) : Int) < 10) = true := by rw [decide_eq_true_eq]; omega
    rw [pQ_Decimal_L1, if_pos hne, if_pos (by decide), if_neg hnn]
    unfold pQ_Decimal_J2 pQ_l01Figure
    rw [t1, if_pos hlt, obs, wr_i64 (by omega) (by omega), wr_u8d (by omega) (by omega), show (48 + ((n % 10 : Nat) : Int)) = ((48 + n % 10 : Nat) : Int) by omega, strOne _ (by omega), t2, wr_i64 (by omega) (by omega)]
    have z : (bs [UInt8.ofNat (48 + n % 10)]).size = 1 := rfl
    rw [if_pos (by unfold sumOk; omega), if_pos (by decide)]
    by_cases c : n < 10
    · have hq : n / 10 = 0 := by omega
      obtain ⟨m, rfl⟩ : ∃ q, m = q + 1 := ⟨m - 1, by omega⟩
      rw [hq, pQ_Decimal_L1, if_neg (by decide), decB_small c, show n % 10 = n by omega]
    · rw [dec_L1 j m (n / 10) _ (by omega) (by omega) (by omega) (by rw [ByteArray.size_append]; omega) (by omega), decB_big c, ByteArray.append_assoc]
theorem decimal {k : Nat} (hk : 100 ≤ k) {n : Nat} (h : n ≤ 999999999) : pQ_Decimal k (n : Int) = some (decB n) ∧ (decB n).size ≤ 9 := by
  refine ⟨?_, decB_size 8 n (by omega)⟩
  unfold pQ_Decimal
  by_cases c : n = 0
  · subst c; rw [if_pos (by decide), decB_small (by decide)]; rfl
  · have hne : ¬ ((n : Int) == 0) = true := by rw [beq_iff_eq]; omega
    have hnn : ¬ decide ((n : Int) < 0) = true := by rw [decide_eq_true_eq]; omega
    rw [if_neg hne, dec_L1 9 k n (bs []) (by omega) (by omega) (by omega) (by decide) (by omega), obs]
    simp only
    rw [if_neg hnn]
    congr 1
    apply ByteArray.ext
    simp [bs]
theorem itoaPos {k : Nat} {n : Nat} (h : n ≤ 999999999) : pU_Decimal k (n : Int) = some (decB n) := by
  unfold pU_Decimal pstrconv_Itoa Lib.itoa decB
  rw [if_pos (by omega), obs, if_neg (by omega), Int.toNat_natCast]
theorem itoaNeg {k : Nat} {n : Nat} (h : n ≤ 999999999) (h0 : 0 < n) : pU_Decimal k (-(n : Int)) = some (bs [45] ++ decB n) := by
  unfold pU_Decimal pstrconv_Itoa Lib.itoa decB
  rw [if_pos (by omega), obs, if_pos (by omega), Int.natAbs_neg, Int.natAbs_natCast]
  refine congrArg some ?_
  apply ByteArray.ext
  simp [bs]
def chain : GTerm → List GTerm × GTerm
  | .mk a b c l => ([], .mk a b c l)
theorem infixSame : @pU_InfixOf = @pQ_InfixOf := by kernel_rfl
theorem prefixSame : @pU_PrefixOf = @pQ_PrefixOf := by kernel_rfl
theorem isStructSame : @pU_isStruct = @pQ_l03Is := by kernel_rfl
theorem joinB_nil (s : ByteArray) : joinB [] s = bs [] := rfl
theorem join_snoc (xs : List (List UInt8)) (x sep : List UInt8) (h : xs ≠ []) : Lib.join (xs ++ [x]) sep = Lib.join xs sep ++ (sep ++ x) := by
  cases xs with
  | nil => exact absurd rfl h
  | cons y ys =>
    rw [List.cons_append, Lib.join_cons, Lib.join_cons]
    unfold Lib.joinTail
    simp
theorem joinB_snoc (xs : List ByteArray) (x s : ByteArray) (h : xs ≠ []) : joinB (xs ++ [x]) s = joinB xs s ++ (s ++ x) := by
  unfold joinB
  rw [List.map_append, List.map_cons, List.map_nil, join_snoc _ _ _ (by simpa using h)]
  apply ByteArray.ext
  simp
theorem joinB_one (x s : ByteArray) : joinB [x] s = x := by
  unfold joinB
  rw [List.map_cons, List.map_nil, Lib.join_one]
def pr (x : GTerm) : Bool := (x.gKind == 4) && (sEq x.gName (bs [46]) && ((x.gKids.length : Int) == 2))
theorem isPr {k : Nat} {x : GTerm} : pQ_l03Is k x (bs [46]) 2 = some (pr x) := by
  unfold pQ_l03Is pr
  cases x.gKind == 4 <;> cases sEq x.gName (bs [46]) <;> rfl
theorem isPair {k : Nat} {x : GTerm} : pU_isPair k x = some (pr x) := by
  unfold pU_isPair
  rw [isStructSame, isPr]; rfl
theorem pr_two {x : GTerm} (h : pr x = true) : ∃ a b, x.gKids = [a, b] ∧ nT x = 2 + nT a + nT b := by
  unfold pr at h
  simp only [Bool.and_eq_true, beq_iff_eq] at h
  have hl : x.gKids.length = 2 := by omega
  match hk : x.gKids, hl with
  | [a, b], _ => exact ⟨a, b, rfl, by rw [nT_kids, hk]; simp [nsum]; omega⟩
theorem gT_kid {x : GTerm} {d : Int} (h : gT d x = true) {y : GTerm} (hy : y ∈ x.gKids) : gT (d + 1) y = true := by
  rw [gT_eq] at h
  simp only [Bool.and_eq_true] at h
  have : ∀ (l : List GTerm) (d : Int), gTs d l = true → ∀ y ∈ l, gT d y = true := by
    intro l
    induction l with
    | nil => intro d _ y hy; cases hy
    | cons x l ih =>
      intro d h y hy
      rw [gTs, Bool.and_eq_true] at h
      cases hy with
      | head => exact h.1
      | tail _ hy => exact ih d h.2 y hy
  exact this _ _ h.2.2 y hy
theorem so {a b : ByteArray} (h : a.size + b.size ≤ 1000000) : sumOk a b := by unfold sumOk; omega
def Both (W V : GTerm → Option ByteArray) (N : Nat) : Prop := ∀ (y : GTerm) (d : Int), gT d y = true → nT y ≤ N → ∃ r, W y = some r ∧ V y = some r ∧ r.size ≤ 120 * (nT y + 1)
theorem z1 (b : UInt8) : (bs [b]).size = 1 := rfl
theorem row {kA kB N : Nat} {W V R X : GTerm → Option ByteArray} (H : Both W V N) : ∀ (mA mB : Nat) (t : GTerm) (d : Int) (s : ByteArray) (a b : GTerm), gT d t = true → t.gKids = [a, b] → nT t = 2 + nT a + nT b → nT b ≤ N → nT b < mA → nT b < mB → s.size + 120 * nT b ≤ 500000 →
    ∃ s' t' b', pQ_l07Row_L1 kB R V mB s t = some (.done (s', t')) ∧ pU_writeWith_on1_pU_write_on2_pU_write_1_L2 kA W X mA s b = some (.done (s', b')) ∧ at' t'.gKids 1 = some b' ∧ nT b' ≤ N ∧ (∃ e, gT e b' = true) ∧ s'.size + 120 * nT b' ≤ s.size + 120 * nT b
  | 0, mB, t, d, s, a, b, h1, h2, h3, h4, h5, h5b, h6 => by omega
  | mA + 1, 0, t, d, s, a, b, h1, h2, h3, h4, h5, h5b, h6 => by omega
  | mA + 1, mB + 1, t, d, s, a, b, h1, h2, h3, h4, h5, h5b, h6 => by
    have hb : gT (d + 1) b = true := gT_kid h1 (by rw [h2]; simp)
    rw [pQ_l07Row_L1, pU_writeWith_on1_pU_write_on2_pU_write_1_L2]
    have a1 : at' t.gKids 1 = some b := by rw [h2]; rfl
    simp only [a1, isPr, isPair, obs]
    cases hp : pr b with
    | false =>
      rw [if_neg Bool.false_ne_true, if_neg Bool.false_ne_true]
      exact ⟨s, t, b, rfl, rfl, a1, h4, ⟨_, hb⟩, Nat.le_refl _⟩
    | true =>
      obtain ⟨u, v, k1, k2⟩ := pr_two hp
      have b0 : at' b.gKids 0 = some u := by rw [k1]; rfl
      have b1 : at' b.gKids 1 = some v := by rw [k1]; rfl
      obtain ⟨r, e1, e2, e3⟩ := H u _ (gT_kid hb (by rw [k1]; simp)) (by omega)
      have s1 : sumOk s (bs [44]) := so (by rw [z1]; omega)
      have s2 : sumOk (s ++ bs [44]) r := so (by rw [ByteArray.size_append, z1]; omega)
      have s3 : sumOk (bs [44]) r := so (by rw [z1]; omega)
      have s4 : sumOk s (bs [44] ++ r) := so (by rw [ByteArray.size_append, z1]; omega)
      rw [if_pos rfl, if_pos rfl]
      simp only [b0, b1, e1, e2, obs]
      rw [if_pos s1, if_pos s2, if_pos s3, if_pos s4, ByteArray.append_assoc]
      obtain ⟨s', t', b', f1, f2, f3, f4, f5, f6⟩ := row (kA := kA) (kB := kB) (R := R) (X := X) H mA mB b (d + 1) (s ++ (bs [44] ++ r)) u v hb k1 k2 (by omega) (by omega) (by omega) (by rw [ByteArray.size_append, ByteArray.size_append, z1]; omega)
      exact ⟨s', t', b', f1, f2, f3, f4, f5, by rw [ByteArray.size_append, ByteArray.size_append, z1] at f6; omega⟩
theorem kids {kA kB N : Nat} {W V R X : GTerm → Option ByteArray} (H : Both W V N) {x : GTerm} {d : Int} (hx : gT d x = true) (hn : ∀ y ∈ x.gKids, nT y ≤ N) (hl : x.gKids.length ≤ 5) {p : ByteArray} (hp : p.size ≤ 100) (hN : N ≤ 400) :
    ∀ (mA mB j : Nat) (l : List ByteArray), j ≤ x.gKids.length → x.gKids.length - j < mA → x.gKids.length - j < mB → l.length = j → (joinB l (bs [44])).size ≤ j * 100000 →
      ∃ l', pU_writeWith_on1_pU_write_on2_pU_write_1_L3 kA W X x mA l (j : Int) = some (.done l') ∧ pQ_l07Write_L3 kB R V x mB (p ++ joinB l (bs [44])) (j : Int) = some (.done (p ++ joinB l' (bs [44]))) ∧ l'.length = x.gKids.length ∧
        (joinB l' (bs [44])).size ≤ (joinB l (bs [44])).size + 120 * nsum nT (x.gKids.drop j) + (x.gKids.length - j)
  | 0, mB, j, l, h1, h2, h2b, h3, h4 => by omega
  | mA + 1, 0, j, l, h1, h2, h2b, h3, h4 => by omega
  | mA + 1, mB + 1, j, l, h1, h2, h2b, h3, h4 => by
    have hM := maxLen_eq
    rw [pU_writeWith_on1_pU_write_on2_pU_write_1_L3, pQ_l07Write_L3]
    by_cases hlt : j < x.gKids.length
    · have hd : decide ((j : Int) < (x.gKids.length : Int)) = true := by simpa using hlt
      have hy := List.getElem_mem hlt
      obtain ⟨r, e1, e2, e3⟩ := H _ _ (gT_kid hx hy) (hn _ hy)
      have hy2 := hn _ hy
      have hle : l.length + [r].length ≤ 1073741824 := by simp only [List.length_cons, List.length_nil]; omega
      have ns := ns_drop hlt
      rw [if_pos hd, if_pos hd, at_lt hlt, obs, e1, obs, if_pos hle, wr_succ hlt (by omega)]
      unfold pQ_l07Write_J4
      simp only [at_lt hlt, obs, e2, wr_succ hlt (show x.gKids.length ≤ maxLen by omega)]
      by_cases h0 : j = 0
      · have hnp : ¬ decide ((j : Int) > 0) = true := by rw [decide_eq_true_eq]; omega
        have hl0 : l = [] := List.length_eq_zero_iff.1 (by omega)
        subst hl0
        have s1 : sumOk (p ++ joinB [] (bs [44])) r := so (by rw [ByteArray.size_append, joinB_nil]; have : (bs []).size = 0 := rfl; omega)
        rw [if_neg hnp, if_pos s1]
        obtain ⟨l', f1, f2, f3, f4⟩ := kids (kA := kA) (kB := kB) (R := R) (X := X) H hx hn hl hp hN mA mB (j + 1) ([] ++ [r]) (by omega) (by omega) (by omega) (by simp; omega) (by rw [List.nil_append, joinB_one]; omega)
        have z : p ++ joinB [] (bs [44]) ++ r = p ++ joinB ([] ++ [r]) (bs [44]) := by
          rw [List.nil_append, joinB_one, joinB_nil, ByteArray.append_assoc]; congr 1
        rw [z]
        refine ⟨l', f1, f2, f3, ?_⟩
        rw [List.nil_append, joinB_one] at f4
        have : (joinB [] (bs [44])).size = 0 := rfl
        omega
      · have hnp : decide ((j : Int) > 0) = true := by rw [decide_eq_true_eq]; omega
        have hl0 : l ≠ [] := fun q => by rw [q] at h3; simp at h3; omega
        have s1 : sumOk (p ++ joinB l (bs [44])) (bs [44]) := so (by rw [ByteArray.size_append, z1]; omega)
        have s2 : sumOk (p ++ joinB l (bs [44]) ++ bs [44]) r := so (by rw [ByteArray.size_append, ByteArray.size_append, z1]; omega)
        rw [if_pos hnp, if_pos s1, if_pos s2]
        have js := joinB_snoc l r (bs [44]) hl0
        obtain ⟨l', f1, f2, f3, f4⟩ := kids (kA := kA) (kB := kB) (R := R) (X := X) H hx hn hl hp hN mA mB (j + 1) (l ++ [r]) (by omega) (by omega) (by omega) (by simp; omega) (by rw [js, ByteArray.size_append, ByteArray.size_append, z1]; omega)
        have z : p ++ joinB l (bs [44]) ++ bs [44] ++ r = p ++ joinB (l ++ [r]) (bs [44]) := by
          rw [js, ByteArray.append_assoc, ByteArray.append_assoc]
        rw [z]
        refine ⟨l', f1, f2, f3, ?_⟩
        rw [js, ByteArray.size_append, ByteArray.size_append, z1] at f4
        omega
    · have hd : ¬ decide ((j : Int) < (x.gKids.length : Int)) = true := by simpa using hlt
      rw [if_neg hd, if_neg hd]
      exact ⟨l, rfl, rfl, by omega, by omega⟩
theorem nat_of {x : Int} (h : 0 ≤ x) : ∃ n : Nat, x = (n : Int) := Int.eq_ofNat_of_zero_le h
theorem ite_ex {α : Type} {c : Prop} [Decidable c] {a b : Option α} (ha : ∃ x, a = some x) (hb : ∃ x, b = some x) : ∃ x, (if c then a else b) = some x := by
  split
  · exact ha
  · exact hb
theorem infixAny (k : Nat) (s : ByteArray) : ∃ r, pQ_InfixOf k s = some r := by
  have J3 : ∀ e, ∃ r, pQ_InfixOf_J3 k s e = some r := fun e => by
    unfold pQ_InfixOf_J3
    repeat' (first | apply ite_ex | exact ⟨_, rfl⟩)
  have J2 : ∀ e, ∃ r, pQ_InfixOf_J2 k s e = some r := fun e => by
    unfold pQ_InfixOf_J2
    repeat' (first | exact J3 _ | apply ite_ex | exact ⟨_, rfl⟩)
  have J1 : ∀ e, ∃ r, pQ_InfixOf_J1 k s e = some r := fun e => by
    unfold pQ_InfixOf_J1
    repeat' (first | exact J2 _ | apply ite_ex | exact ⟨_, rfl⟩)
  unfold pQ_InfixOf
  repeat' (first | exact J1 _ | apply ite_ex | exact ⟨_, rfl⟩)
theorem prefixAny (k : Nat) (s : ByteArray) : ∃ r, pQ_PrefixOf k s = some r := by
  unfold pQ_PrefixOf
  repeat' (first | apply ite_ex | exact ⟨_, rfl⟩)
theorem writes : ∀ (N : Nat), N ≤ 400 → ∀ (kA kB : Nat), 5000 + maxLen + 4 * N < kA → 5000 + maxLen + 4 * N < kB → Both (pU_write kA) (pQ_l07Write kB) N
  | N, hN, 0, kB, hkA, hkB => by omega
  | N, hN, 1, kB, hkA, hkB => by omega
  | N, hN, kA + 2, 0, hkA, hkB => by omega
  | N, hN, kA + 2, 1, hkA, hkB => by omega
  | N, hN, kA + 2, kB + 2, hkA, hkB => by
    intro x d hx hn
    have hM := maxLen_eq
    have hgt := hx
    rw [gT_eq] at hgt
    simp only [Bool.and_eq_true] at hgt
    have h1 := hgt.2.1
    have hA3 : 3000 ≤ kA + 1 := by omega
    have hB3 : 3000 ≤ kB + 1 := by omega
    rw [pU_write, pQ_l07Write]
    unfold pU_writeWith_on1_pU_write_on2_pU_write_1
    unfold one at h1
    by_cases k1 : x.gKind = 1
    · rw [if_pos k1] at h1
      simp only [Bool.and_eq_true] at h1
      have hr := of_decide_eq_true h1.1
      obtain ⟨n, hnn⟩ := nat_of hr.1
      rw [hnn] at hr
      obtain ⟨f1, f2⟩ := decimal (k := kB + 1) (by omega) (n := n) (by omega)
      have g1 := itoaPos (k := kA + 1) (n := n) (by omega)
      have s1 : sumOk (bs [95]) (decB n) := so (by rw [z1]; omega)
      have c1 : (x.gKind == 1) = true := by rw [beq_iff_eq]; exact k1
      rw [if_pos c1, if_pos c1, hnn]
      simp only [f1, g1, obs, if_pos s1]
      exact ⟨_, rfl, rfl, by rw [ByteArray.size_append, z1]; omega⟩
    have c1 : ¬ (x.gKind == 1) = true := by rw [beq_iff_eq]; exact k1
    rw [if_neg k1] at h1
    rw [if_neg c1, if_neg c1]
    by_cases k3 : x.gKind = 3
    · have k2 : ¬ x.gKind = 2 := by omega
      rw [if_neg k2, if_pos k3] at h1
      simp only [Bool.and_eq_true] at h1
      have hr := of_decide_eq_true h1.1
      have c3 : (x.gKind == 3) = true := by rw [beq_iff_eq]; exact k3
      rw [if_pos c3, if_pos c3]
      by_cases hneg : x.gNum < 0
      · obtain ⟨n, hnn⟩ := nat_of (show 0 ≤ -x.gNum by omega)
        have hx' : x.gNum = -(n : Int) := by omega
        obtain ⟨f1, f2⟩ := decimal (k := kB + 1) (by omega) (n := n) (by omega)
        have g1 := itoaNeg (k := kA + 1) (n := n) (by omega) (by omega)
        have hd : decide (x.gNum < 0) = true := by simpa using hneg
        have s1 : sumOk (bs [45]) (decB n) := so (by rw [z1]; omega)
        rw [if_pos hd, hx', wr_i64 (by omega) (by omega), show (0 : Int) - -(n : Int) = (n : Int) by omega]
        simp only [f1, g1, obs, if_pos s1]
        exact ⟨_, rfl, rfl, by rw [ByteArray.size_append, z1]; omega⟩
      · obtain ⟨n, hnn⟩ := nat_of (show 0 ≤ x.gNum by omega)
        obtain ⟨f1, f2⟩ := decimal (k := kB + 1) (by omega) (n := n) (by omega)
        have g1 := itoaPos (k := kA + 1) (n := n) (by omega)
        have hd : ¬ decide (x.gNum < 0) = true := by simpa using hneg
        rw [if_neg hd, hnn]
        simp only [f1, g1, obs]
        exact ⟨_, rfl, rfl, by omega⟩
    have c3 : ¬ (x.gKind == 3) = true := by rw [beq_iff_eq]; exact k3
    rw [if_neg c3, if_neg c3]
    by_cases k2 : x.gKind = 2
    · rw [if_pos k2] at h1
      simp only [Bool.and_eq_true, decide_eq_true_eq] at h1
      obtain ⟨r, f1, f2, f3⟩ := atom2 (kA := kA + 1) (kB := kB + 1) hA3 hB3 h1.1
      have c2 : (x.gKind == 2) = true := by rw [beq_iff_eq]; exact k2
      have s1 : sumOk (bs [40]) r := so (by rw [z1]; omega)
      have s2 : sumOk (bs [40] ++ r) (bs [41]) := so (by rw [ByteArray.size_append, z1, z1]; omega)
      unfold pU_isAtom pU_isOp pQ_l07Op pU_writeWith_on1_pU_write_on2_pU_write_1_J1
      rw [infixSame, prefixSame, show pQ_InfixOf (kA + 1) = pQ_InfixOf (kB + 1) from rfl, show pQ_PrefixOf (kA + 1) = pQ_PrefixOf (kB + 1) from rfl]
      simp only [if_pos c2, obs]
      cases sEq x.gName (bs [91, 93]) with
      | true => exact ⟨_, rfl, rfl, by have : (bs [91, 93]).size = 2 := rfl; omega⟩
      | false =>
        rw [if_neg Bool.false_ne_true, if_neg Bool.false_ne_true]
        obtain ⟨i, q1⟩ := infixAny (kB + 1) x.gName
        obtain ⟨j, q2⟩ := prefixAny (kB + 1) x.gName
        simp only [q1, q2, obs]
        have hop : ∀ b : Bool, ∃ z, ((if b = true then some true else some j.2).bind fun e : Bool => some e) = some z := fun b => by cases b <;> exact ⟨_, rfl⟩
        cases i.2 with
        | true =>
          simp only [if_true, obs, f1, f2, if_pos s1, if_pos s2]
          exact ⟨_, rfl, rfl, by rw [ByteArray.size_append, ByteArray.size_append, z1, z1]; omega⟩
        | false =>
          cases j.2 with
          | true =>
            simp only [Bool.false_eq_true, if_false, if_true, obs, f1, f2, if_pos s1, if_pos s2]
            exact ⟨_, rfl, rfl, by rw [ByteArray.size_append, ByteArray.size_append, z1, z1]; omega⟩
          | false =>
            simp only [Bool.false_eq_true, if_false, obs, f1, f2]
            exact ⟨_, rfl, rfl, by omega⟩
    rw [if_neg k2] at h1
    have k4 : x.gKind = 4 := by
      by_cases q : x.gKind = 4
      · exact q
      · rw [if_neg k3, if_neg q] at h1; cases h1
    rw [if_neg k3, if_pos k4] at h1
    simp only [Bool.and_eq_true, decide_eq_true_eq] at h1
    have hl := of_decide_eq_true h1.2.2
    have c2 : ¬ (x.gKind == 2) = true := by rw [beq_iff_eq]; exact k2
    have c4 : (x.gKind == 4) = true := by rw [beq_iff_eq]; exact k4
    have hkn := nT_kids x
    have hlen := nsum_len nT x.gKids
    obtain ⟨M, rfl⟩ : ∃ M, N = M + 1 := ⟨N - 1, by omega⟩
    have H1 : Both (pU_write (kA + 1)) (pQ_l07Write kB) M := writes M (by omega) (kA + 1) kB (by omega) (by omega)
    have H2 : Both (pU_write (kA + 1)) (pQ_l07Write (kB + 1)) M := writes M (by omega) (kA + 1) (kB + 1) (by omega) (by omega)
    have H3 : Both (pU_write kA) (pQ_l07Write (kB + 1)) M := writes M (by omega) kA (kB + 1) (by omega) (by omega)
    have hkids : ∀ y ∈ x.gKids, nT y ≤ M := fun y hy => by have := nsum_mem (n := nT) hy; omega
    obtain ⟨nm, t1, t2, t3⟩ := atom2 (kA := kA + 1) (kB := kB + 1) hA3 hB3 h1.1
    unfold pU_isAtom pU_writeWith_on1_pU_write_on2_pU_write_1_J1
    simp only [if_neg c2, obs, Bool.false_eq_true, if_false, isPair, isPr]
    have ia : ∀ y : GTerm, pU_isAtom (kA + 1) y (bs [91, 93]) = if (y.gKind == 2) = true then some (sEq y.gName (bs [91, 93])) else some false := fun y => rfl
    cases hp : pr x with
    | true =>
      simp only [if_true]
      obtain ⟨u, v, q1, q2⟩ := pr_two hp
      have x0 : at' x.gKids 0 = some u := by rw [q1]; rfl
      have x1 : at' x.gKids 1 = some v := by rw [q1]; rfl
      obtain ⟨r, e1, e2, e3⟩ := H1 u _ (gT_kid hx (by rw [q1]; simp)) (by omega)
      have s1 : sumOk (bs [91]) r := so (by rw [z1]; omega)
      obtain ⟨s', t', b', f1, f2, f3, f4, ⟨e, f5⟩, f6⟩ := row (kA := kA + 1) (kB := kB) (R := pQ_l07Row kB) (X := pU_write_1 (kA + 1)) H1 (kA + 1) kB x d (bs [91] ++ r) u v hx q1 q2 (by omega) (by omega) (by omega) (by rw [ByteArray.size_append, z1]; omega)
      rw [ByteArray.size_append, z1] at f6
      obtain ⟨w, g1, g2, g3⟩ := H1 b' e f5 f4
      have s2 : sumOk s' (bs [93]) := so (by rw [z1]; omega)
      have s3 : sumOk s' (bs [124]) := so (by rw [z1]; omega)
      have s4 : sumOk (s' ++ bs [124]) w := so (by rw [ByteArray.size_append, z1]; omega)
      have s5 : sumOk (s' ++ bs [124] ++ w) (bs [93]) := so (by rw [ByteArray.size_append, ByteArray.size_append, z1, z1]; omega)
      have s6 : sumOk (bs [124]) w := so (by rw [z1]; omega)
      have s7 : sumOk s' (bs [124] ++ w) := so (by rw [ByteArray.size_append, z1]; omega)
      have s8 : sumOk (s' ++ (bs [124] ++ w)) (bs [93]) := so (by rw [ByteArray.size_append, ByteArray.size_append, z1, z1]; omega)
      rw [pQ_l07Row]
      simp only [x0, x1, e1, e2, obs, if_pos s1, f1, f2, f3, ia, g1, g2, if_pos s2, if_pos s3, if_pos s4, if_pos s5, if_pos s6, if_pos s7, if_pos s8]
      have fin : ((s' ++ (bs [124] ++ w)) ++ bs [93]).size ≤ 120 * (nT x + 1) := by
        simp only [ByteArray.size_append, z1]; omega
      have fin2 : (s' ++ bs [93]).size ≤ 120 * (nT x + 1) := by
        simp only [ByteArray.size_append, z1]; omega
      have asc : s' ++ bs [124] ++ w ++ bs [93] = s' ++ (bs [124] ++ w) ++ bs [93] := by simp only [ByteArray.append_assoc]
      rw [asc]
      cases b'.gKind == 2 with
      | false => exact ⟨_, rfl, rfl, fin⟩
      | true =>
        simp only [if_true]
        cases sEq b'.gName (bs [91, 93]) with
        | true => exact ⟨_, rfl, rfl, fin2⟩
        | false => exact ⟨_, rfl, rfl, fin⟩
    | false =>
      simp only [Bool.false_eq_true, if_false]
      unfold pU_isInfix
      rw [infixSame, show pQ_InfixOf (kA + 1) = pQ_InfixOf (kB + 1) from rfl]
      obtain ⟨i, q0⟩ := infixAny (kB + 1) x.gName
      simp only [q0, obs, if_pos c4]
      obtain ⟨l', f1, f2, f3, f4⟩ := kids (kA := kA + 1) (kB := kB + 1) (R := pQ_l07Row (kB + 1)) (X := pU_write_1 (kA + 1)) H2 hx hkids (by omega) (p := nm ++ bs [40]) (by rw [ByteArray.size_append, z1]; omega) (by omega) (kA + 1) (kB + 1) 0 [] (by omega) (by omega) (by omega) rfl (by show (bs []).size ≤ _; decide)
      rw [show ((0 : Nat) : Int) = 0 from rfl] at f1 f2
      rw [List.drop_zero, show (joinB [] (bs [44])).size = 0 from rfl] at f4
      have pe : nm ++ bs [40] ++ joinB [] (bs [44]) = nm ++ bs [40] := by
        rw [joinB_nil]; apply ByteArray.ext; simp [bs]
      rw [pe] at f2
      have s1 : sumOk nm (bs [40]) := so (by rw [z1]; omega)
      have s2 : sumOk (nm ++ bs [40]) (joinB l' (bs [44])) := so (by rw [ByteArray.size_append, z1]; omega)
      have s3 : sumOk (nm ++ bs [40] ++ joinB l' (bs [44])) (bs [41]) := so (by rw [ByteArray.size_append, ByteArray.size_append, z1, z1]; omega)
      have jj : pstrings_Join (kA + 1) l' (bs [44]) = some (joinB l' (bs [44])) := by
        unfold pstrings_Join
        rw [if_pos ⟨by omega, by omega⟩]
      cases i.2 with
      | false =>
        unfold pQ_l07Write_J1
        simp only [f1, f2, t1, t2, obs, if_pos s1, if_pos s2, if_pos s3, jj, Bool.false_eq_true, if_false]
        exact ⟨_, rfl, rfl, by simp only [ByteArray.size_append, z1]; omega⟩
      | true =>
        simp only [if_true, obs]
        by_cases h2 : x.gKids.length = 2
        · have hb2 : ((x.gKids.length : Int) == 2) = true := by rw [beq_iff_eq]; omega
          rw [hb2]
          simp only [if_true]
          match hk2 : x.gKids, h2 with
          | [u, v], _ =>
            have nx : nT x = 2 + nT u + nT v := by rw [hkn, hk2]; simp [nsum]; omega
            obtain ⟨r, e1, e2, e3⟩ := H3 u _ (gT_kid hx (by rw [hk2]; simp)) (by omega)
            obtain ⟨w, g1, g2, g3⟩ := H3 v _ (gT_kid hx (by rw [hk2]; simp)) (by omega)
            have x0 : at' x.gKids 0 = some u := by rw [hk2]; rfl
            have x1 : at' x.gKids 1 = some v := by rw [hk2]; rfl
            obtain ⟨nm', t1', t2', t3'⟩ := atom2 (kA := kA) (kB := kB + 1) (by omega) hB3 h1.1
            obtain rfl : nm = nm' := by rw [t1] at t1'; exact oInj t1'
            have body : ∀ sg : ByteArray, sg.size ≤ 22 → (pU_signText kA x.gName = some sg) → ∃ z, pU_write_1 (kA + 1) x = some z ∧ pQ_l07Write_J2 (kB + 1) (pQ_l07Row (kB + 1)) (pQ_l07Write (kB + 1)) x sg = some z ∧ z.size ≤ 120 * (nT x + 1) := by
              intro sg hsg hst
              have s1 : sumOk (bs [40]) r := so (by rw [z1]; omega)
              have s2 : sumOk (bs [40] ++ r) (bs [32]) := so (by simp only [ByteArray.size_append, z1]; omega)
              have s3 : sumOk (bs [40] ++ r ++ bs [32]) sg := so (by simp only [ByteArray.size_append, z1]; omega)
              have s4 : sumOk (bs [40] ++ r ++ bs [32] ++ sg) (bs [32]) := so (by simp only [ByteArray.size_append, z1]; omega)
              have s5 : sumOk (bs [40] ++ r ++ bs [32] ++ sg ++ bs [32]) w := so (by simp only [ByteArray.size_append, z1]; omega)
              have s6 : sumOk (bs [40] ++ r ++ bs [32] ++ sg ++ bs [32] ++ w) (bs [41]) := so (by simp only [ByteArray.size_append, z1]; omega)
              rw [pU_write_1]
              unfold pQ_l07Write_J2
              simp only [x0, x1, e1, e2, g1, g2, hst, obs, if_pos s1, if_pos s2, if_pos s3, if_pos s4, if_pos s5, if_pos s6]
              exact ⟨_, rfl, rfl, by simp only [ByteArray.size_append, z1]; omega⟩
            unfold pQ_l07Write_J1
            simp only [if_true, t1, obs]
            cases hc : sEq x.gName (bs [44]) with
            | true =>
              obtain ⟨z, y1, y2, y3⟩ := body (bs [44]) (by decide) (by unfold pU_signText; rw [hc, if_pos rfl, sEq_iff.1 hc])
              simp only [if_true, y1, y2, obs]
              exact ⟨z, rfl, rfl, y3⟩
            | false =>
              obtain ⟨z, y1, y2, y3⟩ := body nm t3 (by unfold pU_signText; rw [hc, if_neg Bool.false_ne_true, t2', obs])
              simp only [Bool.false_eq_true, if_false, y1, y2, obs]
              exact ⟨z, rfl, rfl, y3⟩
        · have hb2 : ((x.gKids.length : Int) == 2) = false := by rw [beq_eq_false_iff_ne]; omega
          rw [hb2]
          unfold pQ_l07Write_J1
          simp only [f1, f2, t1, t2, obs, if_pos s1, if_pos s2, if_pos s3, jj, Bool.false_eq_true, if_false]
          exact ⟨_, rfl, rfl, by simp only [ByteArray.size_append, z1]; omega⟩
theorem kk {n k : Nat} (m : Nat) (h : n < k - maxLen) (hm : m ≤ n := by decide) : maxLen + m < k := by
  rw [Nat.add_comm]
  exact Nat.add_lt_of_lt_sub (Nat.lt_of_le_of_lt hm h)
theorem kz {n k : Nat} (h : n < k - maxLen) : maxLen < k := by
  have := kk 0 h (Nat.zero_le _)
  exact this
theorem band255 (x : Int) : 0 ≤ band .i64 x 255 ∧ band .i64 x 255 ≤ 255 := by
  have h : ∀ b : BitVec 64, (b &&& BitVec.ofInt 64 255).toNat ≤ 255 := by
    intro b
    rw [BitVec.toNat_and]
    exact Nat.and_le_right
  have e : band .i64 x 255 = IntKind.wrap .i64 ((BitVec.ofInt 64 x &&& BitVec.ofInt 64 255).toNat) := rfl
  have h1 := h (BitVec.ofInt 64 x)
  generalize (BitVec.ofInt 64 x &&& BitVec.ofInt 64 255).toNat = n at e h1
  have e2 : wr.i64 (n : Int) = n := wr_i64 (by omega) (by omega)
  rw [e, show IntKind.wrap .i64 (n : Int) = wr.i64 (n : Int) from rfl, e2]
  omega
theorem at_int {α : Type} {l : List α} {v : Int} (h1 : 0 ≤ v) (h2 : v < (l.length : Int)) : ∃ (h : v.toNat < l.length), at' l v = some l[v.toNat] := by
  obtain ⟨n, rfl⟩ := Int.eq_ofNat_of_zero_le h1
  exact ⟨by omega, at_lt (by omega)⟩
def CurOk (c : GXc) : Prop := c.gB.length ≤ 1048576 ∧ 0 ≤ c.gI ∧ c.gI ≤ (c.gB.length : Int)
theorem l01New_L1 (k : Nat) (a : List Int) (hl : a.length ≤ 1048576) : ∀ (m j : Nat) (h : Int), j ≤ a.length → a.length - j < m → ∃ r, pQ_l01New_L1 k a m h (j : Int) = some (.done r)
  | 0, j, h, h1, h2 => by omega
  | m + 1, j, h, h1, h2 => by
    rw [pQ_l01New_L1]
    have hM := maxLen_eq
    by_cases c : j < a.length
    · rw [if_pos (by simpa using c)]
      split
      · rw [at_lt c, wr_succ c (by omega)]
        exact l01New_L1 k a hl m (j + 1) _ (by omega) (by omega)
      · exact ⟨_, rfl⟩
    · rw [if_neg (by simpa using c)]
      exact ⟨_, rfl⟩
theorem l01New {k : Nat} {a : List Int} (hl : a.length ≤ 1048576) (hk : maxLen < k) : ∃ c, pQ_l01New k a = some c ∧ CurOk c := by
  unfold pQ_l01New
  have hM := maxLen_eq
  obtain ⟨r, e⟩ := l01New_L1 k a hl k 0 (wr.i64 (95101 + (a.length : Int))) (by omega) (by omega)
  rw [show ((0 : Nat) : Int) = 0 from rfl] at e
  rw [e]
  exact ⟨_, rfl, hl, by simp, by simp⟩
theorem l01Byte {c : GXc} (h : CurOk c) (k : Nat) : ∃ c' v, pQ_l01Byte k c = some (c', v) ∧ CurOk c' ∧ 0 ≤ v ∧ v ≤ 255 := by
  unfold pQ_l01Byte
  obtain ⟨h1, h2, h3⟩ := h
  by_cases g : c.gI < (c.gB.length : Int)
  · rw [if_pos (by simpa using g)]
    obtain ⟨hn, e⟩ := at_int h2 g
    rw [e]
    refine ⟨_, _, rfl, ⟨h1, ?_, ?_⟩, (band255 _).1, (band255 _).2⟩
    · simp only; rw [wr_i64 (by omega) (by omega)]; omega
    · simp only; rw [wr_i64 (by omega) (by omega)]; omega
  · rw [if_neg (by simpa using g)]
    exact ⟨_, _, rfl, ⟨h1, h2, h3⟩, (band255 _).1, (band255 _).2⟩
theorem l01Below {c : GXc} (h : CurOk c) (k : Nat) (n : Int) : ∃ c' v, pQ_l01Below k c n = some (c', v) ∧ CurOk c' ∧ 0 ≤ v ∧ (0 < n → v < n) ∧ (n ≤ 0 → v = 0) := by
  unfold pQ_l01Below
  by_cases g : n ≤ 0
  · rw [if_pos (by simpa using g)]
    exact ⟨_, _, rfl, h, by omega, by omega, fun _ => rfl⟩
  rw [if_neg (by simpa using g)]
  split
  · obtain ⟨c', v, e, h1, h2, h3⟩ := l01Byte h k
    rw [e]
    simp only [Option.bind_some]
    rw [if_pos (by omega)]
    exact ⟨_, _, rfl, h1, Int.tmod_nonneg _ h2, fun _ => Int.tmod_lt_of_pos _ (by omega), by omega⟩
  · obtain ⟨c1, v1, e1, h1, l1, u1⟩ := l01Byte h k
    obtain ⟨c2, v2, e2, h2, l2, u2⟩ := l01Byte h1 k
    obtain ⟨c3, v3, e3, h3, l3, u3⟩ := l01Byte h2 k
    obtain ⟨c4, v4, e4, h4, l4, u4⟩ := l01Byte h3 k
    simp only [e1, e2, e3, e4, Option.bind_some]
    rw [if_pos (by omega)]
    have w1 : wr.i64 (v1 * 16777216) = v1 * 16777216 := wr_i64 (by omega) (by omega)
    have w2 : wr.i64 (v2 * 65536) = v2 * 65536 := wr_i64 (by omega) (by omega)
    have w3 : wr.i64 (v3 * 256) = v3 * 256 := wr_i64 (by omega) (by omega)
    rw [w1, w2, w3, wr_i64 (x := v1 * 16777216 + v2 * 65536) (by omega) (by omega), wr_i64 (x := v1 * 16777216 + v2 * 65536 + v3 * 256) (by omega) (by omega), wr_i64 (by omega) (by omega)]
    exact ⟨_, _, rfl, h4, Int.tmod_nonneg _ (by omega), fun _ => Int.tmod_lt_of_pos _ (by omega), by omega⟩
theorem at_mem {α : Type} {l : List α} {v : Int} (h1 : 0 ≤ v) (h2 : v < (l.length : Int)) : ∃ x, at' l v = some x ∧ x ∈ l := by
  obtain ⟨hn, e⟩ := at_int h1 h2
  exact ⟨_, e, List.getElem_mem hn⟩
theorem l01Pick {c : GXc} (h : CurOk c) (k : Nat) {l : List ByteArray} (hl : 0 < l.length) : ∃ c' s, pQ_l01Pick k c l = some (c', s) ∧ CurOk c' ∧ s ∈ l := by
  unfold pQ_l01Pick
  obtain ⟨c', v, e, h1, h2, h3, h4⟩ := l01Below h k (l.length : Int)
  obtain ⟨s, e2, h5⟩ := at_mem h2 (h3 (by omega))
  simp only [e, e2, Option.bind_some]
  exact ⟨_, _, rfl, h1, h5⟩
theorem l01PickInt {c : GXc} (h : CurOk c) (k : Nat) {l : List Int} (hl : 0 < l.length) : ∃ c' s, pQ_l01PickInt k c l = some (c', s) ∧ CurOk c' ∧ s ∈ l := by
  unfold pQ_l01PickInt
  obtain ⟨c', v, e, h1, h2, h3, h4⟩ := l01Below h k (l.length : Int)
  obtain ⟨s, e2, h5⟩ := at_mem h2 (h3 (by omega))
  simp only [e, e2, Option.bind_some]
  exact ⟨_, _, rfl, h1, h5⟩
theorem ok_mk {a : Int} {b : ByteArray} {c : Int} {l : List GTerm} (h1 : -9223372036854775808 ≤ a ∧ a ≤ 9223372036854775807) (h2 : b.size ≤ 9223372036854775807) (h3 : -9223372036854775808 ≤ c ∧ c ≤ 9223372036854775807) (h4 : l.length ≤ 9223372036854775807) (h5 : ∀ x ∈ l, x.ok) : (GTerm.mk a b c l).ok := by
  have e1 : IntKind.i64.min = -9223372036854775808 := rfl
  have e2 : IntKind.i64.max = 9223372036854775807 := rfl
  have hM := maxLen_eq
  exact .mk _ _ _ _ (by unfold okI; omega) (by unfold okFs; omega) (by unfold okI; omega) (by omega) h5
theorem one_ok {x : GTerm} (h : one x = true) : (1 ≤ x.gKind ∧ x.gKind ≤ 4) ∧ x.gName.size ≤ 20 ∧ (-999999999 ≤ x.gNum ∧ x.gNum ≤ 999999999) ∧ x.gKids.length ≤ 5 := by
  have hin : ∀ {x a b : Int}, inR x a b = true → a ≤ x ∧ x ≤ b := fun h => of_decide_eq_true h
  have hz : ∀ {s : ByteArray}, sEq s (bs []) = true → s.size ≤ 20 := fun h => by rw [sEq_iff.1 h]; decide
  unfold one at h
  split at h
  · simp only [Bool.and_eq_true, beq_iff_eq] at h
    have := hin h.1; have := hz h.2.1; omega
  split at h
  · simp only [Bool.and_eq_true, beq_iff_eq, decide_eq_true_eq] at h
    have := h.1.2.2; omega
  split at h
  · simp only [Bool.and_eq_true, beq_iff_eq] at h
    have := hin h.1; have := hz h.2.1; omega
  split at h
  · simp only [Bool.and_eq_true, beq_iff_eq, decide_eq_true_eq] at h
    have := h.1.2.2; have := hin h.2.2; omega
  · cases h
mutual
theorem gT_ok : ∀ (x : GTerm) (d : Int), gT d x = true → x.ok
  | .mk a b c l, d, h => by
    rw [gT_eq] at h
    simp only [Bool.and_eq_true] at h
    have := one_ok h.2.1
    simp only [mk_gKind, mk_gName, mk_gNum, mk_gKids] at this
    exact ok_mk (by omega) (by omega) (by omega) (by omega) (gTs_ok l (d + 1) h.2.2)
theorem gTs_ok : ∀ (l : List GTerm) (d : Int), gTs d l = true → ∀ x ∈ l, x.ok
  | [], d, h => fun x hx => by cases hx
  | x :: l, d, h => fun y hy => by
    rw [gTs, Bool.and_eq_true] at h
    cases hy with
    | head => exact gT_ok x d h.1
    | tail _ hy => exact gTs_ok l d h.2 y hy
end
theorem gTs_all {d : Int} : ∀ {l : List GTerm}, (∀ y ∈ l, gT d y = true) → gTs d l = true
  | [], _ => by rw [gTs]
  | x :: l, h => by rw [gTs, h x (List.mem_cons_self ..), gTs_all (fun y hy => h y (List.mem_cons_of_mem _ hy))]; rfl
theorem one_var {n : Int} (h : 0 ≤ n ∧ n ≤ 99999) : one (.mk 1 (bs []) n []) = true := by
  unfold one
  rw [mk_gKind, mk_gName, mk_gNum, mk_gKids, if_pos rfl, inR_t h, sEq_refl]; rfl
theorem one_atom {s : ByteArray} (h : nmOk s) : one (.mk 2 s 0 []) = true := by
  unfold one
  rw [mk_gKind, mk_gName, mk_gNum, mk_gKids, if_neg (by decide), if_pos rfl, decide_eq_true h]; rfl
theorem one_int {n : Int} (h : -999999999 ≤ n ∧ n ≤ 999999999) : one (.mk 3 (bs []) n []) = true := by
  unfold one
  rw [mk_gKind, mk_gName, mk_gNum, mk_gKids, if_neg (by decide), if_neg (by decide), if_pos rfl, inR_t h, sEq_refl]; rfl
theorem one_struct {s : ByteArray} {l : List GTerm} (h : nmOk s) (h1 : 1 ≤ l.length) (h2 : l.length ≤ 5) : one (.mk 4 s 0 l) = true := by
  unfold one
  rw [mk_gKind, mk_gName, mk_gNum, mk_gKids, if_neg (by decide), if_neg (by decide), if_neg (by decide), if_pos rfl, decide_eq_true h, inR_t (by omega)]; rfl
def MadeT (d : Nat) (x : GTerm) : Prop := (∀ e : Int, e + (d : Int) ≤ 40 → gT e x = true) ∧ nT x + 1 ≤ 4 ^ d
theorem MadeT.leaf {x : GTerm} (d : Nat) (h1 : one x = true) (h2 : x.gKids = []) : MadeT d x := by
  refine ⟨fun e he => ?_, ?_⟩
  · rw [gT_eq, h1, h2, gTs, decide_eq_true (by omega)]; rfl
  · rw [nT_kids, h2]; exact Nat.one_le_pow _ _ (by omega)
theorem MadeT.node {d : Nat} {b : ByteArray} {l : List GTerm} (h1 : nmOk b) (h2 : 1 ≤ l.length) (h3 : l.length ≤ 3) (h4 : ∀ y ∈ l, MadeT d y) : MadeT (d + 1) (.mk 4 b 0 l) := by
  refine ⟨fun e he => ?_, ?_⟩
  · rw [gT_eq, mk_gKids, gTs_all (fun y hy => (h4 y hy).1 (e + 1) (by omega)), decide_eq_true (by omega), one_struct h1 h2 (by omega)]
    rfl
  · rw [nT_kids, mk_gKids]
    have : ∀ m : List GTerm, (∀ y ∈ m, MadeT d y) → nsum nT m ≤ m.length * 4 ^ d := by
      intro m
      induction m with
      | nil => intro _; exact Nat.zero_le _
      | cons x m ih =>
        intro hm
        have a := (hm x (List.mem_cons_self ..)).2
        have b := ih (fun y hy => hm y (List.mem_cons_of_mem _ hy))
        rw [nsum, List.length_cons, Nat.succ_mul]
        omega
    have a := this l h4
    have b : l.length * 4 ^ d ≤ 3 * 4 ^ d := Nat.mul_le_mul_right _ h3
    have c : 1 ≤ 4 ^ d := Nat.one_le_pow _ _ (by omega)
    rw [Nat.pow_succ]
    omega
theorem MadeT.right {x : GTerm} (h : MadeT 3 x) : tOk x = true := by
  have := h.2
  unfold tOk
  rw [h.1 1 (by omega), decide_eq_true (by omega)]
  rfl
theorem names_ok {s : ByteArray} (h : s ∈ [(bs [97]), (bs [98]), (bs [91, 93]), (bs [43]), (bs [66, 105, 103]), bs [120], (bs [58, 45]), (bs [61, 46, 46]), (bs [61]), (bs [44]), (bs [102]), (bs [59]), (bs [103]), (bs [45]), bs [46], bs [115]]) : nmOk s := by
  have : ∀ s ∈ [(bs [97]), (bs [98]), (bs [91, 93]), (bs [43]), (bs [66, 105, 103]), bs [120], (bs [58, 45]), (bs [61, 46, 46]), (bs [61]), (bs [44]), (bs [102]), (bs [59]), (bs [103]), (bs [45]), bs [46], bs [115]], nmOk s := by decide +kernel
  exact this s h
theorem atom_made {s : ByteArray} (h : nmOk s) (d : Nat) : MadeT d (.mk 2 s 0 []) :=
  MadeT.leaf d (one_atom h) rfl
theorem l03Made_L2 {k d : Nat} {F : GXc → Int → Option (GXc × GTerm)} (hd : wr.i64 (((d + 1 : Nat) : Int) - 1) = (d : Int))
    (hF : ∀ c, CurOk c → ∃ c' t, F c (d : Int) = some (c', t) ∧ CurOk c' ∧ MadeT d t) {s : ByteArray} :
    ∀ (m j : Nat) (l : List GTerm) (c : GXc), 4 - j < m → j ≤ 3 → CurOk c → l.length = j → (∀ y ∈ l, MadeT d y) →
      ∃ t c', pQ_l03Made_L2 k F ((d + 1 : Nat) : Int) m (j : Int) (.mk 4 s 0 l) c = some (.done (t, c')) ∧ CurOk c' ∧ ∃ l', t = .mk 4 s 0 l' ∧ l'.length ≤ 3 ∧ (1 ≤ j ∨ 1 ≤ l'.length) ∧ j ≤ l'.length ∧ ∀ y ∈ l', MadeT d y
  | 0, j, l, c, h1, h2, h3, h4, h5 => by omega
  | m + 1, j, l, c, h1, h2, h3, h4, h5 => by
    rw [pQ_l03Made_L2]
    obtain ⟨c', v, e, g1, g2, g3, _⟩ := l01Below h3 k 3
    have g3 := g3 (by decide)
    simp only [e, Option.bind_some]
    rw [wr_i64 (x := 1 + v) (by omega) (by omega)]
    by_cases q : (j : Int) < 1 + v
    · rw [if_pos (by simpa using q), mk_gKids, if_pos (by rw [decide_eq_true_eq]; omega), hd]
      obtain ⟨c2, t, e2, g4, g5⟩ := hF c' g1
      simp only [e2, Option.bind_some, mk_gKind, mk_gName, mk_gNum]
      rw [if_pos (by simp; omega), wr_i64 (by omega) (by omega), show ((j : Int) + 1) = ((j + 1 : Nat) : Int) by omega]
      obtain ⟨t', c3, e3, g6, l', rfl, g7, g8, g9, g10⟩ := l03Made_L2 (k := k) hd hF (s := s) m (j + 1) (l ++ [t]) c2 (by omega) (by omega) g4 (by simp; omega) (by
        intro y hy
        rcases List.mem_append.1 hy with hy | hy
        · exact h5 y hy
        · rw [List.mem_singleton.1 hy]; exact g5)
      exact ⟨_, c3, e3, g6, l', rfl, g7, .inr (by omega), by omega, g10⟩
    · rw [if_neg (by simpa using q)]
      exact ⟨_, _, rfl, g1, l, rfl, by omega, .inl (by omega), by omega, h5⟩
theorem l03Made : ∀ (d k : Nat), d ≤ 3 → d + 8 ≤ k → ∀ c, CurOk c → ∃ c' t, pQ_l03Made k c (d : Int) = some (c', t) ∧ CurOk c' ∧ MadeT d t
  | _, 0, _, h2, _, _ => by omega
  | d, k + 1, h1, h2, c, h => by
    rw [pQ_l03Made]
    obtain ⟨c1, v, e, g1, g2, g3, _⟩ := l01Below h k 10
    have g3 := g3 (by decide)
    simp only [e, Option.bind_some]
    have leaf : ∀ u : Int, 0 ≤ u → u < 6 → ∃ c' t, pQ_l03Made_J1 k (pQ_l03Made k) (c1, v) (d : Int) u = some (c', t) ∧ CurOk c' ∧ MadeT d t := by
      intro u u1 u2
      unfold pQ_l03Made_J1
      split
      · obtain ⟨c2, w, e2, g4, g5, g6, _⟩ := l01Below g1 k 4
        have g6 := g6 (by decide)
        simp only [e2, Option.bind_some, pQ_l03Var]
        refine ⟨_, _, rfl, g4, MadeT.leaf d (one_var (by omega)) rfl⟩
      split
      · rw [if_pos (by decide)]
        obtain ⟨c2, s, e2, g4, g5⟩ := l01Pick g1 k (l := [(bs [97]), (bs [98]), (bs [91, 93]), (bs [43]), (bs [66, 105, 103]), (bs [120, 32, 121]).extract ((0 : Int) : Int).toNat (1 : Int).toNat, (bs [58, 45]), (bs [61, 46, 46])]) (by decide)
        simp only [e2, Option.bind_some, pQ_l03Atom]
        refine ⟨_, _, rfl, g4, atom_made (names_ok ?_) d⟩
        have hx : (bs [120, 32, 121]).extract ((0 : Int) : Int).toNat (1 : Int).toNat = bs [120] := by decide
        rw [hx] at g5
        simp only [List.mem_cons, List.not_mem_nil, or_false] at g5 ⊢
        rcases g5 with h | h | h | h | h | h | h | h <;> simp [h]
      · rw [if_pos (by rw [decide_eq_true_eq]; exact u2)]
        obtain ⟨c2, s, e2, g4, g5⟩ := l01PickInt g1 k (l := [0, 1, -7, 999999999]) (by decide)
        simp only [e2, Option.bind_some, pQ_l03Num]
        refine ⟨_, _, rfl, g4, MadeT.leaf d (one_int (by
          simp only [List.mem_cons, List.not_mem_nil, or_false] at g5
          omega)) rfl⟩
    cases d with
    | zero =>
      rw [if_pos (by decide), if_pos (by decide)]
      have := Int.tmod_nonneg 6 g2
      have := Int.tmod_lt_of_pos v (b := 6) (by decide)
      exact leaf _ (by omega) (by omega)
    | succ d =>
      rw [if_neg (by rw [decide_eq_true_eq]; omega)]
      have hd : wr.i64 (((d + 1 : Nat) : Int) - 1) = (d : Int) := by rw [wr_i64 (by omega) (by omega)]; omega
      have hF := l03Made d k (by omega) (by omega)
      by_cases u : v < 6
      · exact leaf v g2 u
      unfold pQ_l03Made_J1
      rw [if_neg (by rw [decide_eq_true_eq]; omega), if_neg (by rw [decide_eq_true_eq]; omega), if_neg (by rw [decide_eq_true_eq]; omega)]
      have two : ∀ (s : ByteArray) (x y : GTerm), nmOk s → MadeT d x → MadeT d y → MadeT (d + 1) (.mk 4 s 0 [x, y]) := fun s x y h1 h2 h3 =>
        MadeT.node h1 (by simp) (by simp) (by
          intro z hz
          simp only [List.mem_cons, List.not_mem_nil, or_false] at hz
          rcases hz with rfl | rfl
          · exact h2
          · exact h3)
      split
      · rw [hd]
        obtain ⟨c2, x, e2, g4, g5⟩ := hF c1 g1
        obtain ⟨c3, y, e3, g6, g7⟩ := hF c2 g4
        simp only [e2, e3, Option.bind_some, pQ_l03Two]
        exact ⟨_, _, rfl, g6, two _ _ _ (names_ok (by simp)) g5 g7⟩
      split
      · obtain ⟨c1', s, e1, g1', gs⟩ := l01Pick g1 k (l := [(bs [43]), (bs [61]), (bs [44]), (bs [102]), (bs [59])]) (by decide)
        rw [hd]
        obtain ⟨c2, x, e2, g4, g5⟩ := hF c1' g1'
        obtain ⟨c3, y, e3, g6, g7⟩ := hF c2 g4
        simp only [e1, e2, e3, Option.bind_some, pQ_l03Two]
        refine ⟨_, _, rfl, g6, two _ _ _ (names_ok ?_) g5 g7⟩
        simp only [List.mem_cons, List.not_mem_nil, or_false] at gs ⊢
        rcases gs with h | h | h | h | h <;> simp [h]
      · obtain ⟨c1', s, e1, g1', gs⟩ := l01Pick g1 k (l := [(bs [102]), (bs [103]), (bs [45]), (bs [91, 93])]) (by decide)
        simp only [e1, Option.bind_some]
        obtain ⟨t, c', e2, g4, l', rfl, g5, g6, g7, g8⟩ := l03Made_L2 (k := k) hd hF (s := s) k 0 [] c1' (by omega) (by omega) g1' rfl (fun y hy => by cases hy)
        rw [show ((0 : Nat) : Int) = 0 from rfl] at e2
        rw [e2]
        refine ⟨_, _, rfl, g4, MadeT.node (names_ok ?_) (by omega) g5 g8⟩
        simp only [List.mem_cons, List.not_mem_nil, or_false] at gs ⊢
        rcases gs with h | h | h | h <;> simp [h]
def AnyT (x : GTerm) : Prop := x.ok ∧ nT x ≤ 110
theorem l03Any_L1 {k : Nat} {g : GXc × Int} (h1 : 0 ≤ g.2) : ∀ (m j : Nat) (x : GTerm), 42 - j < m → j ≤ 41 → x.ok → nT x ≤ 63 + j → ∃ y, pQ_l03Any_L1 k g m (j : Int) x = some (.done y) ∧ AnyT y
  | 0, j, x, a1, a2, a3, a4 => by omega
  | m + 1, j, x, a1, a2, a3, a4 => by
    rw [pQ_l03Any_L1, if_pos (by decide)]
    have g1 := Int.tmod_nonneg 4 h1
    have g2 := Int.tmod_lt_of_pos g.2 (b := 4) (by decide)
    rw [wr_i64 (x := 38 + Int.tmod g.2 4) (by omega) (by omega)]
    by_cases q : (j : Int) < 38 + Int.tmod g.2 4
    · rw [if_pos (by simpa using q), wr_i64 (by omega) (by omega), show ((j : Int) + 1) = ((j + 1 : Nat) : Int) by omega]
      refine l03Any_L1 h1 m (j + 1) _ (by omega) (by omega) (ok_mk (by omega) (by decide) (by omega) (by simp) ?_) ?_
      · intro y hy; rw [List.mem_singleton.1 hy]; exact a3
      · rw [nT, nTs, nTs]; omega
    · rw [if_neg (by simpa using q)]
      exact ⟨_, rfl, a3, by omega⟩
theorem l03Any {c : GXc} (h : CurOk c) {k : Nat} (hk : 1000000 < k - maxLen) : ∃ c' t, pQ_l03Any k c = some (c', t) ∧ CurOk c' ∧ AnyT t := by
  unfold pQ_l03Any
  obtain ⟨c1, v, e1, h1, l1, u1, _⟩ := l01Below h k 12
  obtain ⟨c2, w, e2, h2, l2, u2, _⟩ := l01Below h1 k 60
  obtain ⟨c3, t, e3, h3, h4⟩ := l03Made 3 k (by omega) (by omega) c2 h2
  rw [show ((3 : Nat) : Int) = 3 from rfl] at e3
  simp only [e1, e2, e3, Option.bind_some]
  have ok := gT_ok t 1 (h4.1 1 (by omega))
  have hn := h4.2
  obtain ⟨o1, o2, o3, o4, o5⟩ : okI .i64 t.gKind ∧ okFs t.gName ∧ okI .i64 t.gNum ∧ t.gKids.length ≤ maxLen ∧ ∀ y ∈ t.gKids, y.ok := by
    clear hn h4
    cases ok with | mk a b c l h1 h2 h3 h4 h5 => exact ⟨h1, h2, h3, h4, h5⟩
  have kk : ∀ q : Int, 0 ≤ q → q ≤ 1000000000 → okI .i64 q := fun q a b => by
    have e1 : IntKind.i64.min = -9223372036854775808 := rfl
    have e2 : IntKind.i64.max = 9223372036854775807 := rfl
    unfold okI; omega
  have nk : ∀ a b c, nT (.mk a b c t.gKids) = nT t := fun a b c => by rw [nT_kids, mk_gKids, ← nT_kids]
  split
  · rw [if_pos (by decide)]
    have := Int.tmod_nonneg 6 l2
    have := Int.tmod_lt_of_pos w (b := 6) (by decide)
    exact ⟨_, _, rfl, h3, .mk _ _ _ _ (kk _ (by omega) (by omega)) o2 o3 o4 o5, by rw [nk]; omega⟩
  split
  · rw [if_pos (by decide)]
    have g1 := Int.tmod_nonneg 4 l2
    have g2 := Int.tmod_lt_of_pos w (b := 4) (by decide)
    obtain ⟨s, e4, hs⟩ := at_mem (l := [(bs []), (bs [97, 32, 98]), (bs [39]), (bs [97, 97, 97, 97, 97, 97, 97, 97, 97, 97, 97, 97, 97, 97, 97, 97, 97, 97, 97, 97, 97])]) g1 (by simpa using g2)
    simp only [e4, Option.bind_some]
    refine ⟨_, _, rfl, h3, .mk _ _ _ _ o1 ?_ o3 o4 o5, by rw [nk]; omega⟩
    have : ∀ s ∈ [(bs []), (bs [97, 32, 98]), (bs [39]), (bs [97, 97, 97, 97, 97, 97, 97, 97, 97, 97, 97, 97, 97, 97, 97, 97, 97, 97, 97, 97, 97])], s.size ≤ 100 := by decide
    have := this s hs
    have hM := maxLen_eq
    unfold okFs; omega
  split
  · rw [if_pos (by decide)]
    have g1 := Int.tmod_nonneg 3 l2
    have g2 := Int.tmod_lt_of_pos w (b := 3) (by decide)
    obtain ⟨s, e4, hs⟩ := at_mem (l := [-1, 100000, 1000000000]) g1 (by simpa using g2)
    simp only [e4, Option.bind_some]
    refine ⟨_, _, rfl, h3, .mk _ _ _ _ o1 o2 ?_ o4 o5, by rw [nk]; omega⟩
    simp only [List.mem_cons, List.not_mem_nil, or_false] at hs
    have e1 : IntKind.i64.min = -9223372036854775808 := rfl
    have e2 : IntKind.i64.max = 9223372036854775807 := rfl
    unfold okI; omega
  split
  · obtain ⟨y, e4, hy⟩ := l03Any_L1 (k := k) (g := (c2, w)) l2 k 0 t (by omega) (by omega) ok (by omega)
    rw [show ((0 : Nat) : Int) = 0 from rfl] at e4
    rw [e4]
    exact ⟨_, _, rfl, h3, hy⟩
  · exact ⟨_, _, rfl, h3, ok, by omega⟩
theorem l03Has_L1 (k : Nat) {l : List Int} (x : Int) (hl : l.length ≤ maxLen) : ∀ (m j : Nat), j ≤ l.length → l.length - j < m → pQ_l03Has_L1 k l x m (j : Int) = some (if x ∈ l.drop j then .ret true else .done ())
  | 0, j, h1, h2 => by omega
  | m + 1, j, h1, h2 => by
    unfold pQ_l03Has_L1
    by_cases hlt : j < l.length
    · rw [if_pos (by simpa using hlt), at_lt hlt, List.drop_eq_getElem_cons hlt]
      simp only [Option.bind_some]
      by_cases e : l[j] = x
      · rw [if_pos (by simpa using e), if_pos (by simp [e])]
      · rw [if_neg (by simpa using e), wr_succ hlt hl, l03Has_L1 k x hl m (j + 1) (by omega) (by omega)]
        have : (x ∈ l[j] :: l.drop (j + 1)) ↔ x ∈ l.drop (j + 1) := by
          rw [List.mem_cons]; exact ⟨fun h => h.resolve_left (fun h => e h.symm), .inr⟩
        simp only [this]
    · rw [if_neg (by simpa using hlt), List.drop_of_length_le (by omega)]; simp
theorem l03Has {k : Nat} {l : List Int} (x : Int) (hl : l.length ≤ maxLen) (hk : maxLen < k) : pQ_l03Has k l x = some (decide (x ∈ l)) := by
  unfold pQ_l03Has
  have e := l03Has_L1 k x hl k 0 (by omega) (by omega)
  rw [show ((0 : Nat) : Int) = 0 from rfl, List.drop_zero] at e
  rw [e]
  by_cases h : x ∈ l <;> simp [h]
def uniq : List Int → List Int → List Int
  | [], o => o
  | x :: l, o => uniq l (if x ∈ o then o else o ++ [x])
theorem uniq_len : ∀ (l o : List Int), (uniq l o).length ≤ o.length + l.length
  | [], o => by simp [uniq]
  | x :: l, o => by
    have h := uniq_len l (if x ∈ o then o else o ++ [x])
    rw [uniq]
    split at h
    · rename_i c; rw [if_pos c]; simp only [List.length_cons]; omega
    · rename_i c; rw [if_neg c]; simp only [List.length_append, List.length_cons, List.length_nil] at h ⊢; omega
mutual
def vs : GTerm → List Int
  | .mk a _ c l => (if a = 1 then [c] else []) ++ vss l
def vss : List GTerm → List Int
  | [] => []
  | x :: l => vs x ++ vss l
end
theorem vs_eq (x : GTerm) : vs x = (if x.gKind = 1 then [x.gNum] else []) ++ vss x.gKids := by cases x; rw [vs]; rfl
mutual
theorem vs_len : ∀ x : GTerm, (vs x).length ≤ 1 + nT x
  | .mk a b c l => by
    have h := vss_len l
    rw [vs, nT]
    split <;> simp <;> omega
theorem vss_len : ∀ l : List GTerm, (vss l).length ≤ nTs l
  | [] => by simp [vss, nTs]
  | x :: l => by
    have h1 := vs_len x
    have h2 := vss_len l
    rw [vss, nTs]
    simp only [List.length_append]; omega
end
theorem vss_drop {l : List GTerm} {j : Nat} (h : j < l.length) : vss (l.drop j) = vs l[j] ++ vss (l.drop (j + 1)) := by
  rw [List.drop_eq_getElem_cons h, vss]
theorem uniq_app : ∀ (a b o : List Int), uniq (a ++ b) o = uniq b (uniq a o)
  | [], b, o => by simp [uniq]
  | x :: a, b, o => by simp only [List.cons_append, uniq]; exact uniq_app a b _
theorem mem_uniq : ∀ (l o : List Int) (x : Int), x ∈ uniq l o ↔ x ∈ l ∨ x ∈ o
  | [], o, x => by simp [uniq]
  | y :: l, o, x => by
    rw [uniq, mem_uniq l]
    split
    · rename_i c
      constructor
      · rintro (h | h)
        · exact .inl (List.mem_cons_of_mem _ h)
        · exact .inr h
      · rintro (h | h)
        · rcases List.mem_cons.1 h with rfl | h
          · exact .inr c
          · exact .inl h
        · exact .inr h
    · simp only [List.mem_append, List.mem_cons, List.not_mem_nil, or_false]
      constructor
      · rintro (h | h | h)
        · exact .inl (.inr h)
        · exact .inr h
        · exact .inl (.inl h)
      · rintro ((h | h) | h)
        · exact .inr (.inr h)
        · exact .inl h
        · exact .inr (.inl h)
theorem l03Vars_L2 {k : Nat} {x : GTerm} {f : GTerm → List Int → Option (List Int)} (hx : x.gKids.length ≤ 1048576)
    (hf : ∀ y ∈ x.gKids, ∀ s, s.length + 1 + nT y ≤ 8388608 → f y s = some (uniq (vs y) s)) :
    ∀ (m j : Nat) (s : List Int), j ≤ x.gKids.length → x.gKids.length - j < m → s.length + nsum nT (x.gKids.drop j) ≤ 8388608 →
      pQ_l03Vars_L2 k f x m s (j : Int) = some (.done (uniq (vss (x.gKids.drop j)) s))
  | 0, j, s, h1, h2, h3 => by omega
  | m + 1, j, s, h1, h2, h3 => by
    have hm : x.gKids.length ≤ maxLen := by rw [maxLen_eq]; omega
    unfold pQ_l03Vars_L2
    by_cases hlt : j < x.gKids.length
    · rw [ns_drop hlt] at h3
      have hl := uniq_len (vs x.gKids[j]) s
      have hl2 := vs_len x.gKids[j]
      rw [if_pos (by simpa using hlt), at_lt hlt]
      simp only [Option.bind_some]
      rw [hf _ (List.getElem_mem hlt) s (by omega)]
      simp only [Option.bind_some]
      rw [wr_succ hlt hm, l03Vars_L2 hx hf m (j + 1) _ (by omega) (by omega) (by omega), vss_drop hlt, uniq_app]
    · rw [if_neg (by simpa using hlt), List.drop_of_length_le (by omega), vss, uniq]
theorem l03Vars : ∀ (k : Nat) (x : GTerm), maxLen + 2 * nT x + 2 < k → nT x ≤ 1048576 → ∀ s, s.length + 1 + nT x ≤ 8388608 → pQ_l03Vars k x s = some (uniq (vs x) s)
  | 0, x, h => by omega
  | k + 1, x, hw => by
    intro hn s h2
    have hk := nT_kids x
    have hlen := nsum_len nT x.gKids
    have hm : maxLen = 9223372036854775807 := maxLen_eq
    have e : ∀ s : List Int, s.length + nT x ≤ 8388608 → pQ_l03Vars_J1 k (pQ_l03Vars k) x s = some (uniq (vss x.gKids) s) := by
      intro s hs
      have e := l03Vars_L2 (k := k) (f := pQ_l03Vars k) (x := x) (by omega) (fun y hy s g2 => by have := nsum_mem (n := nT) hy; exact l03Vars k y (by omega) (by omega) s g2) k 0 s (by omega) (by omega) (by rw [List.drop_zero]; omega)
      rw [show ((0 : Nat) : Int) = 0 from rfl, List.drop_zero] at e
      unfold pQ_l03Vars_J1
      rw [e]; rfl
    unfold pQ_l03Vars
    rw [vs_eq]
    by_cases c1 : x.gKind = 1
    · rw [if_pos (by simpa using c1), if_pos c1, l03Has _ (by omega) (by omega)]
      simp only [Option.bind_some]
      unfold pQ_l03Vars_J3
      rw [List.singleton_append, uniq]
      by_cases hs : x.gNum ∈ s
      · rw [if_neg (by simp [hs]), if_pos hs, e s (by omega)]
      · rw [if_pos (by simp [hs]), if_neg hs, if_pos (by simp; omega), e _ (by simp; omega)]
    · rw [if_neg (by simpa using c1), if_neg c1]
      unfold pQ_l03Vars_J3
      rw [if_neg (by simp), List.nil_append, e s (by omega)]
namespace Rd
theorem bs_size (L : List UInt8) : (bs L).size = L.length := by simp [bs, ByteArray.size]
theorem bt_bs (L : List UInt8) (n : Nat) : bt (bs L) (n : Int) = (((L[n]?).getD 0).toNat : Int) := by
  unfold bt
  rw [Int.toNat_natCast]
  congr 2
  simp only [bs]
  rcases Nat.lt_or_ge n L.length with h | h
  · rw [getElem?_pos _ n (by simpa [ByteArray.size] using h), List.getElem?_eq_getElem h]
    rfl
  · rw [getElem?_neg _ n (by simpa [ByteArray.size] using h), List.getElem?_eq_none h]
theorem bt_mid {A t B : List UInt8} {i : Nat} {c : UInt8} (h : t[i]? = some c) : bt (bs (A ++ t ++ B)) ((A.length + i : Nat) : Int) = (c.toNat : Int) := by
  have hi : i < t.length := (List.getElem?_eq_some_iff.1 h).1
  rw [bt_bs, List.append_assoc, List.getElem?_append_right (by omega), List.getElem?_append_left (by omega), show A.length + i - A.length = i by omega, h]
  rfl
theorem bt_behind {A t B : List UInt8} {c : UInt8} (h : B[0]? = some c) : bt (bs (A ++ t ++ B)) ((A.length + t.length : Nat) : Int) = (c.toNat : Int) := by
  rw [bt_bs, List.getElem?_append_right (by rw [List.length_append]; omega), show A.length + t.length - (A ++ t).length = 0 by rw [List.length_append]; omega, h]
  rfl
theorem ext_bs (L : List UInt8) (a b : Nat) : (bs L).extract a b = bs ((L.drop a).take (b - a)) := by
  apply ByteArray.ext
  simp only [bs, ByteArray.data_extract]
  apply Array.ext'
  simp
theorem ext_mid {A t B : List UInt8} : (bs (A ++ t ++ B)).extract A.length (A.length + t.length) = bs t := by
  rw [ext_bs, List.append_assoc, List.drop_left, show A.length + t.length - A.length = t.length by omega, List.take_left]
theorem runW {k : Nat} (hk : 100 ≤ k) {s : ByteArray} (hs : s.size ≤ 3000) {p : Nat} : ∀ (m n : Nat), n ≤ p → p - n < m → Run wordb s n p → pQ_l05Run_L1 k s m (n : Int) = some (.done (p : Int))
  | 0, n, h1, h2, h3 => by omega
  | m + 1, n, h1, h2, h3 => by
    rw [pQ_l05Run_L1]
    have hp := h3.2.1
    by_cases hnp : n < p
    · have hlt : n < s.size := by omega
      have b := byteOk hk s (n : Int)
      rw [if_pos (lt_t hlt), if_pos (idx hlt), b.word, obs, h3.2.2.1 n (Nat.le_refl _) hnp, if_pos rfl, wsucc (by omega)]
      exact runW hk hs m (n + 1) (by omega) (by omega) ⟨by omega, hp, fun i h1 h2 => h3.2.2.1 i (by omega) h2, h3.2.2.2⟩
    · have : n = p := by omega
      subst this
      by_cases hlt : n < s.size
      · have b := byteOk hk s (n : Int)
        rw [if_pos (lt_t hlt), if_pos (idx hlt), b.word, obs, h3.2.2.2 hlt, if_neg (by decide)]
      · rw [if_neg (lt_f hlt)]
theorem runS {k : Nat} (hk : 100 ≤ k) {s : ByteArray} (hs : s.size ≤ 3000) {p : Nat} : ∀ (m n : Nat), n ≤ p → p - n < m → Run symb s n p → pQ_l05Sign_L5 k s m (n : Int) = some (.done (p : Int))
  | 0, n, h1, h2, h3 => by omega
  | m + 1, n, h1, h2, h3 => by
    rw [pQ_l05Sign_L5]
    have hp := h3.2.1
    by_cases hnp : n < p
    · have hlt : n < s.size := by omega
      have b := byteOk hk s (n : Int)
      rw [if_pos (lt_t hlt), if_pos (idx hlt), b.sym, obs, h3.2.2.1 n (Nat.le_refl _) hnp, if_pos rfl, wsucc (by omega)]
      exact runS hk hs m (n + 1) (by omega) (by omega) ⟨by omega, hp, fun i h1 h2 => h3.2.2.1 i (by omega) h2, h3.2.2.2⟩
    · have : n = p := by omega
      subst this
      by_cases hlt : n < s.size
      · have b := byteOk hk s (n : Int)
        rw [if_pos (lt_t hlt), if_pos (idx hlt), b.sym, obs, h3.2.2.2 hlt, if_neg (by decide)]
      · rw [if_neg (lt_f hlt)]
def fv (s : ByteArray) : Nat → Nat → Int → Int
  | 0, _, v => v
  | l + 1, n, v => fv s l (n + 1) (10 * v + bt s (n : Int) - 48)
theorem runF {k : Nat} (hk : 100 ≤ k) {s : ByteArray} (hs : s.size ≤ 3000) {p : Nat} : ∀ (m n : Nat) (v B : Int), n ≤ p → p - n < m → Run figb s n p → 0 ≤ v → v ≤ B → (B + 1) * (10 ^ (p - n) : Nat) ≤ 1000000000 → pQ_l05Sign_L2 k s m (n : Int) v = some (.done ((p : Int), fv s (p - n) n v))
  | 0, n, v, B, h1, h2, h3, h4, h5, h6 => by omega
  | m + 1, n, v, B, h1, h2, h3, h4, h5, h6 => by
    rw [pQ_l05Sign_L2]
    have hp := h3.2.1
    by_cases hnp : n < p
    · have hlt : n < s.size := by omega
      have b := byteOk hk s (n : Int)
      have hf := h3.2.2.1 n (Nat.le_refl _) hnp
      have hd : 48 ≤ bt s (n : Int) ∧ bt s (n : Int) ≤ 57 := of_decide_eq_true hf
      obtain ⟨l, hl⟩ : ∃ l, p - n = l + 1 := ⟨p - n - 1, by omega⟩
      have h10 : (10 ^ (p - n) : Nat) = 10 * 10 ^ l := by rw [hl, Nat.pow_succ, Nat.mul_comm]
      have h0 : 0 < 10 ^ l := Nat.pow_pos (by omega)
      have hpos : (1 : Int) ≤ (10 ^ l : Nat) := by omega
      rw [h10] at h6
      have h6' : (10 * B + 10) * ((10 ^ l : Nat) : Int) ≤ 1000000000 := by
        have : (B + 1) * ((10 * 10 ^ l : Nat) : Int) = (10 * B + 10) * ((10 ^ l : Nat) : Int) := by push_cast; rw [← Int.mul_assoc]; congr 1; omega
        omega
      have hB : 10 * B + 10 ≤ 1000000000 := by
        have h0 : 0 ≤ 10 * B + 10 := by omega
        have := Int.mul_le_mul_of_nonneg_left hpos h0
        omega
      rw [if_pos (lt_t hlt), if_pos (idx hlt), b.fig, obs, hf, if_pos rfl, if_pos (by simp; omega), if_pos (idx hlt), wsucc (by omega), wr_i64 (x := bt s (n : Int)) (by omega) (by omega), wr_i64 (x := 10 * v) (by omega) (by omega), wr_i64 (x := 10 * v + bt s (n : Int)) (by omega) (by omega), wr_i64 (x := 10 * v + bt s (n : Int) - 48) (by omega) (by omega)]
      have hs2 : p - (n + 1) = l := by omega
      have e : 10 * B + 9 + 1 = 10 * B + 10 := by omega
      have := runF hk hs m (n + 1) (10 * v + bt s (n : Int) - 48) (10 * B + 9) (by omega) (by omega) ⟨by omega, hp, fun i h1 h2 => h3.2.2.1 i (by omega) h2, h3.2.2.2⟩ (by omega) (by omega) (by rw [hs2, e]; exact h6')
      rw [this, hl, hs2]
      rfl
    · have : n = p := by omega
      subst this
      rw [Nat.sub_self, fv]
      by_cases hlt : n < s.size
      · have b := byteOk hk s (n : Int)
        rw [if_pos (lt_t hlt), if_pos (idx hlt), b.fig, obs, h3.2.2.2 hlt, if_neg (by decide)]
      · rw [if_neg (lt_f hlt)]
theorem runOf {f : Int → Bool} {A t B : List UInt8} (hw : ∀ b ∈ t, f (b.toNat : Int) = true) (hB : ∀ b, B[0]? = some b → f (b.toNat : Int) = false) : Run f (bs (A ++ t ++ B)) A.length (A.length + t.length) := by
  refine ⟨Nat.le_add_right _ _, by rw [bs_size, List.length_append, List.length_append]; omega, fun i h1 h2 => ?_, fun h => ?_⟩
  · obtain ⟨j, rfl⟩ : ∃ j, i = A.length + j := ⟨i - A.length, by omega⟩
    have hj : j < t.length := by omega
    rw [bt_mid (List.getElem?_eq_getElem hj)]
    exact hw _ (List.getElem_mem hj)
  · rw [bs_size, List.length_append, List.length_append] at h
    have hb : 0 < B.length := by omega
    rw [bt_behind (List.getElem?_eq_getElem hb)]
    exact hB _ (List.getElem?_eq_getElem hb)
structure At0 (A : List UInt8) (c : UInt8) (r B : List UInt8) : Prop where
  sz : (A ++ (c :: r) ++ B).length ≤ 3000
theorem start {k : Nat} {A B r : List UInt8} {c : UInt8} (hs : (A ++ (c :: r) ++ B).length ≤ 3000) (hk : 100 ≤ k) {g : Bool} (hg : (smallb (c.toNat : Int) || greatb (c.toNat : Int)) = g) :
    pQ_l05Sign k (bs (A ++ (c :: r) ++ B)) (A.length : Int) = pQ_l05Sign_J1 k (bs (A ++ (c :: r) ++ B)) (A.length : Int) g := by
  have hlen : A.length < (bs (A ++ (c :: r) ++ B)).size := by rw [bs_size]; simp only [List.length_append, List.length_cons]; omega
  have hsz : (bs (A ++ (c :: r) ++ B)).size ≤ 3000 := by rw [bs_size]; exact hs
  have b := byteOk hk (bs (A ++ (c :: r) ++ B)) (A.length : Int)
  have h0 : bt (bs (A ++ (c :: r) ++ B)) ((A.length : Nat) : Int) = (c.toNat : Int) := bt_mid (A := A) (t := c :: r) (B := B) (i := 0) rfl
  unfold pQ_l05Sign
  rw [if_pos (idx hlen), wsucc (by omega), if_pos (by omega), b.small, b.great, h0]
  simp only [obs]
  cases h1 : smallb (c.toNat : Int) with
  | true =>
    rw [h1] at hg
    rw [if_pos rfl]
    have : g = true := by rw [← hg]; rfl
    rw [this]
  | false =>
    rw [h1] at hg
    rw [if_neg (by decide)]
    have : greatb (c.toNat : Int) = g := by rw [← hg]; rfl
    rw [this]
theorem first {A B r : List UInt8} {c : UInt8} : bt (bs (A ++ (c :: r) ++ B)) ((A.length : Nat) : Int) = (c.toNat : Int) := bt_mid (A := A) (t := c :: r) (B := B) (i := 0) rfl
theorem lexWord {k : Nat} (hk : 4000 ≤ k) {A B r : List UInt8} {c : UInt8} (hs : (A ++ (c :: r) ++ B).length ≤ 3000) {g : Bool} (h1 : (smallb (c.toNat : Int) || greatb (c.toNat : Int)) = true) (hg : greatb (c.toNat : Int) = g) (hw : ∀ b ∈ c :: r, wordb (b.toNat : Int) = true)
    (hB : ∀ b, B[0]? = some b → wordb (b.toNat : Int) = false) (h20 : (c :: r).length ≤ 20) :
    pQ_l05Sign k (bs (A ++ (c :: r) ++ B)) (A.length : Int) = some (GSign.mk (if g then 2 else 1) (bs (c :: r)) 0 A.length false, ((A.length + (c :: r).length : Nat) : Int)) := by
  have hsz : (bs (A ++ (c :: r) ++ B)).size ≤ 3000 := by rw [bs_size]; exact hs
  have hR := runOf (A := A) (t := c :: r) (B := B) hw hB
  have hp := hR.2.1
  have b := byteOk (k := k) (by omega) (bs (A ++ (c :: r) ++ B)) (A.length : Int)
  rw [start hs (by omega) h1]
  unfold pQ_l05Sign_J1 pQ_l05Run
  rw [if_pos rfl, runW (by omega) hsz k A.length (Nat.le_add_right _ _) (by omega) hR]
  simp only [obs]
  rw [if_pos (by rw [wr_i64 (by omega) (by omega)]; simp only [decide_eq_true_eq]; omega), b.great, first, hg, obs]
  cases g with
  | true => rw [if_pos rfl, if_pos (by omega), Int.toNat_natCast, Int.toNat_natCast, ext_mid]; rfl
  | false => rw [if_neg (by decide), if_pos (by omega), Int.toNat_natCast, Int.toNat_natCast, ext_mid]; rfl
theorem lexInt {k : Nat} (hk : 4000 ≤ k) {A B r : List UInt8} {c : UInt8} (hs : (A ++ (c :: r) ++ B).length ≤ 3000) (h1 : (smallb (c.toNat : Int) || greatb (c.toNat : Int)) = false) (hf : figb (c.toNat : Int) = true) (hw : ∀ b ∈ c :: r, figb (b.toNat : Int) = true)
    (hB : ∀ b, B[0]? = some b → figb (b.toNat : Int) = false) (h9 : (c :: r).length ≤ 9) {v : Int} (hv : ∀ A B, fv (bs (A ++ (c :: r) ++ B)) (c :: r).length A.length 0 = v) (hv9 : v ≤ 999999999) :
    pQ_l05Sign k (bs (A ++ (c :: r) ++ B)) (A.length : Int) = some (GSign.mk 3 (bs []) v A.length false, ((A.length + (c :: r).length : Nat) : Int)) := by
  have hsz : (bs (A ++ (c :: r) ++ B)).size ≤ 3000 := by rw [bs_size]; exact hs
  have hR := runOf (A := A) (t := c :: r) (B := B) hw hB
  have hp := hR.2.1
  have b := byteOk (k := k) (by omega) (bs (A ++ (c :: r) ++ B)) (A.length : Int)
  have e1 : A.length + (c :: r).length - A.length = (c :: r).length := by omega
  have h10 : (10 ^ (c :: r).length : Nat) ≤ 10 ^ 9 := Nat.pow_le_pow_right (by omega) h9
  rw [start hs (by omega) h1]
  unfold pQ_l05Sign_J1
  rw [if_neg (by decide), b.fig, first, hf]
  simp only [obs]
  rw [if_pos trivial, runF (by omega) hsz k A.length 0 0 (Nat.le_add_right _ _) (by omega) hR (by omega) (by omega) (by rw [e1]; omega), e1, hv]
  simp only [obs]
  rw [if_pos (by simpa using hv9)]
theorem notEnd {k : Nat} {s : ByteArray} {n : Nat} (hn : n < s.size) (h : (bt s (n : Int) == 46) = false) : pQ_l05End k s (n : Int) = some false := by
  unfold pQ_l05End
  rw [if_pos (idx hn), if_neg (by rw [h]; decide)]
structure Plain (c : UInt8) : Prop where
  sg : (smallb (c.toNat : Int) || greatb (c.toNat : Int)) = false
  fg : figb (c.toNat : Int) = false
  q : ((c.toNat : Int) == 39) = false
  e : ((c.toNat : Int) == 33) = false
theorem toJ3 {k : Nat} (hk : 4000 ≤ k) {A B r : List UInt8} {c : UInt8} (hs : (A ++ (c :: r) ++ B).length ≤ 3000) (h : Plain c) :
    pQ_l05Sign k (bs (A ++ (c :: r) ++ B)) (A.length : Int) = pQ_l05Sign_J3 k (bs (A ++ (c :: r) ++ B)) (A.length : Int) ((c.toNat : Int) == 59) := by
  have b := byteOk (k := k) (by omega) (bs (A ++ (c :: r) ++ B)) (A.length : Int)
  rw [start hs (by omega) h.sg]
  unfold pQ_l05Sign_J1
  rw [if_neg (by decide), b.fig, first, h.fg]
  simp only [obs]
  rw [if_neg (by decide), if_neg (by rw [h.q]; decide), if_neg (by rw [h.e]; decide)]
theorem ext_first {A B r : List UInt8} {c : UInt8} : (bs (A ++ (c :: r) ++ B)).extract A.length (A.length + 1) = bs [c] := by
  have : A ++ (c :: r) ++ B = A ++ [c] ++ (r ++ B) := by simp
  rw [this]
  exact ext_mid (A := A) (t := [c]) (B := r ++ B)
theorem lexSolo {k : Nat} (hk : 4000 ≤ k) {A B : List UInt8} (hs : (A ++ [59] ++ B).length ≤ 3000) :
    pQ_l05Sign k (bs (A ++ [59] ++ B)) (A.length : Int) = some (GSign.mk 1 (bs [59]) 0 A.length false, ((A.length + 1 : Nat) : Int)) := by
  have hl : A.length ≤ 2999 := by simp only [List.length_append, List.length_cons, List.length_nil] at hs; omega
  rw [toJ3 hk (r := []) hs ⟨by decide, by decide, by decide, by decide⟩]
  unfold pQ_l05Sign_J3
  rw [if_pos (by decide), wsucc (by omega), Int.toNat_natCast, Int.toNat_natCast, ext_first (r := [])]
theorem lexMark {k : Nat} (hk : 4000 ≤ k) {A B : List UInt8} {c : UInt8} (hs : (A ++ [c] ++ B).length ≤ 3000) (h : Plain c) (h59 : ((c.toNat : Int) == 59) = false) (hm : markb (c.toNat : Int) = true) :
    pQ_l05Sign k (bs (A ++ [c] ++ B)) (A.length : Int) = some (GSign.mk 4 (bs [c]) 0 A.length false, ((A.length + 1 : Nat) : Int)) := by
  have hl : A.length ≤ 2999 := by simp only [List.length_append, List.length_cons, List.length_nil] at hs; omega
  have b := byteOk (k := k) (by omega) (bs (A ++ [c] ++ B)) (A.length : Int)
  have hmk := b.mark
  rw [first, hm] at hmk
  have J4 : pQ_l05Sign_J4 k (bs (A ++ [c] ++ B)) (A.length : Int) true = some (GSign.mk 4 (bs [c]) 0 A.length false, ((A.length + 1 : Nat) : Int)) := by
    unfold pQ_l05Sign_J4
    rw [if_pos rfl, wsucc (by omega), Int.toNat_natCast, Int.toNat_natCast, ext_first (r := [])]
  rw [toJ3 hk (r := []) hs h, h59]
  unfold pQ_l05Sign_J3
  rw [if_neg (by decide), first]
  by_cases c1 : ((c.toNat : Int) == 40) = true
  · rw [if_pos c1, J4]
  rw [if_neg c1]
  by_cases c2 : ((c.toNat : Int) == 41) = true
  · rw [if_pos c2, J4]
  rw [if_neg c2]
  by_cases c3 : ((c.toNat : Int) == 91) = true
  · rw [if_pos c3, J4]
  rw [if_neg c3]
  by_cases c4 : ((c.toNat : Int) == 93) = true
  · rw [if_pos c4, J4]
  rw [if_neg c4]
  by_cases c5 : ((c.toNat : Int) == 44) = true
  · rw [if_pos c5, J4]
  rw [if_neg c5]
  have f : ∀ {x : Bool}, ¬ x = true → x = false := fun {x} h => by cases x <;> simp_all
  rw [f c1, f c2, f c3, f c4, f c5] at hmk
  have c6 : ((c.toNat : Int) == 124) = true := hmk.symm
  rw [c6, J4]
theorem toJ4 {k : Nat} {s : ByteArray} {n : Nat} (hm : markb (bt s (n : Int)) = false) (b : ByteOk k (bt s (n : Int))) : pQ_l05Sign_J3 k s (n : Int) false = pQ_l05Sign_J4 k s (n : Int) false := by
  have hmk := b.mark
  rw [hm] at hmk
  have hmk := hmk.symm
  simp only [Bool.or_eq_false_iff] at hmk
  obtain ⟨c1, c2, c3, c4, c5, c6⟩ := hmk
  unfold pQ_l05Sign_J3
  rw [if_neg (by decide), if_neg (by rw [c1]; decide), if_neg (by rw [c2]; decide), if_neg (by rw [c3]; decide), if_neg (by rw [c4]; decide), if_neg (by rw [c5]; decide), c6]
theorem lexSym {k : Nat} (hk : 4000 ≤ k) {A B r : List UInt8} {c : UInt8} (hs : (A ++ (c :: r) ++ B).length ≤ 3000) (h : Plain c) (h59 : ((c.toNat : Int) == 59) = false) (h46 : ((c.toNat : Int) == 46) = false) (hw : ∀ b ∈ c :: r, symb (b.toNat : Int) = true)
    (hB : ∀ b, B[0]? = some b → symb (b.toNat : Int) = false) (h20 : (c :: r).length ≤ 20) :
    pQ_l05Sign k (bs (A ++ (c :: r) ++ B)) (A.length : Int) = some (GSign.mk 1 (bs (c :: r)) 0 A.length false, ((A.length + (c :: r).length : Nat) : Int)) := by
  have hsz : (bs (A ++ (c :: r) ++ B)).size ≤ 3000 := by rw [bs_size]; exact hs
  have hlen : A.length < (bs (A ++ (c :: r) ++ B)).size := by rw [bs_size]; simp only [List.length_append, List.length_cons]; omega
  have hR := runOf (A := A) (t := c :: r) (B := B) hw hB
  have hp := hR.2.1
  have b := byteOk (k := k) (by omega) (bs (A ++ (c :: r) ++ B)) (A.length : Int)
  have hc := hw c (List.mem_cons_self ..)
  have hm : markb (bt (bs (A ++ (c :: r) ++ B)) (A.length : Int)) = false := b.sm (by rw [first]; exact hc)
  rw [toJ3 hk hs h, h59, toJ4 hm b]
  unfold pQ_l05Sign_J4
  rw [if_neg (by decide), notEnd hlen (by rw [first]; exact h46)]
  simp only [obs]
  rw [if_neg (by decide), b.sym, first, hc]
  simp only [obs]
  rw [if_pos trivial, runS (by omega) hsz k A.length (Nat.le_add_right _ _) (by omega) hR]
  simp only [obs]
  rw [if_pos (by rw [wr_i64 (by omega) (by omega)]; simp only [decide_eq_true_eq]; omega), if_pos (by omega), Int.toNat_natCast, Int.toNat_natCast, ext_mid]
theorem quoted_L1 {k : Nat} (hk2 : maxLen < k) (hk : 4000 ≤ k) {A q B : List UInt8} (hs : (A ++ (39 :: (q ++ [39])) ++ B).length ≤ 3000) (hq : ∀ b ∈ q, ((b.toNat : Int) == 39) = false) (hn : nmOk (bs q)) :
    ∀ (m j : Nat), j ≤ q.length → q.length - j < m → pQ_l05Quoted_L1 k (bs (A ++ (39 :: (q ++ [39])) ++ B)) (A.length : Int) m ((A.length + 1 + j : Nat) : Int) = some (.ret ((A.length + (q.length + 2) : Nat) : Int))
  | 0, j, h1, h2 => by omega
  | m + 1, j, h1, h2 => by
    have hL : A.length + (q.length + 2) ≤ 3000 := by simp only [List.length_append, List.length_cons, List.length_nil] at hs; omega
    have hsz : (bs (A ++ (39 :: (q ++ [39])) ++ B)).size = A.length + (q.length + 2) + B.length := by rw [bs_size]; simp only [List.length_append, List.length_cons, List.length_nil] <;> omega
    have hlt : A.length + 1 + j < (bs (A ++ (39 :: (q ++ [39])) ++ B)).size := by omega
    rw [pQ_l05Quoted_L1, if_pos (lt_t hlt), if_pos (idx hlt)]
    have e1 : A.length + 1 + j = A.length + (1 + j) := by omega
    by_cases hj : j < q.length
    · have hb : bt (bs (A ++ (39 :: (q ++ [39])) ++ B)) ((A.length + 1 + j : Nat) : Int) = (q[j].toNat : Int) := by
        rw [e1]
        refine bt_mid ?_
        rw [show 1 + j = j + 1 by omega, List.getElem?_cons_succ, List.getElem?_append_left hj, List.getElem?_eq_getElem hj]
      rw [hb, if_neg (by rw [hq _ (List.getElem_mem hj)]; decide), wsucc (by omega)]
      exact quoted_L1 hk2 hk hs hq hn m (j + 1) (by omega) (by omega)
    · have hjq : j = q.length := by omega
      subst hjq
      have hb : bt (bs (A ++ (39 :: (q ++ [39])) ++ B)) ((A.length + 1 + q.length : Nat) : Int) = ((39 : UInt8).toNat : Int) := by
        rw [e1]
        refine bt_mid ?_
        rw [show 1 + q.length = q.length + 1 by omega, List.getElem?_cons_succ, List.getElem?_append_right (Nat.le_refl _), Nat.sub_self]
        rfl
      have ee : (bs (A ++ (39 :: (q ++ [39])) ++ B)).extract (A.length + 1) (A.length + 1 + q.length) = bs q := by
        have : A ++ (39 :: (q ++ [39])) ++ B = (A ++ [39]) ++ q ++ ([39] ++ B) := by simp
        rw [this]
        have := ext_mid (A := A ++ [39]) (t := q) (B := [39] ++ B)
        rw [List.length_append] at this
        exact this
      rw [hb, if_pos (by decide), wsucc (by omega), if_pos (by omega), Int.toNat_natCast, Int.toNat_natCast, ee, l03Name (by rw [bs_size, maxLen_eq]; omega) hk2, obs, decide_eq_true hn, if_pos rfl, wsucc (by omega)]
      congr 3
      omega
theorem lexQuote {k : Nat} (hk : maxLen < k) {A q B : List UInt8} (hs : (A ++ (39 :: (q ++ [39])) ++ B).length ≤ 3000) (hq : ∀ b ∈ q, ((b.toNat : Int) == 39) = false) (hn : nmOk (bs q)) :
    pQ_l05Sign k (bs (A ++ (39 :: (q ++ [39])) ++ B)) (A.length : Int) = some (GSign.mk 1 (bs q) 0 A.length false, ((A.length + (39 :: (q ++ [39])).length : Nat) : Int)) := by
  have hM := maxLen_eq
  have hL : A.length + (q.length + 2) ≤ 3000 := by simp only [List.length_append, List.length_cons, List.length_nil] at hs; omega
  have hsz : (bs (A ++ (39 :: (q ++ [39])) ++ B)).size = A.length + (q.length + 2) + B.length := by rw [bs_size]; simp only [List.length_append, List.length_cons, List.length_nil] <;> omega
  have b := byteOk (k := k) (by omega) (bs (A ++ (39 :: (q ++ [39])) ++ B)) (A.length : Int)
  have hf : bt (bs (A ++ (39 :: (q ++ [39])) ++ B)) (A.length : Int) = ((39 : UInt8).toNat : Int) := first
  have e := quoted_L1 (k := k) hk (by omega) hs hq hn k 0 (Nat.zero_le _) (by omega)
  rw [start hs (by omega) (show (smallb ((39 : UInt8).toNat : Int) || greatb ((39 : UInt8).toNat : Int)) = false by decide)]
  unfold pQ_l05Sign_J1 pQ_l05Quoted
  rw [if_neg (by decide), b.fig, obs, hf, show figb ((39 : UInt8).toNat : Int) = false by decide, if_neg (by decide), if_pos (by decide), wsucc (by omega)]
  rw [show A.length + 1 + 0 = A.length + 1 by omega] at e
  rw [e]
  simp only [obs]
  have ee : (bs (A ++ (39 :: (q ++ [39])) ++ B)).extract (A.length + 1) (A.length + 1 + q.length) = bs q := by
    have : A ++ (39 :: (q ++ [39])) ++ B = (A ++ [39]) ++ q ++ ([39] ++ B) := by simp
    rw [this]
    have := ext_mid (A := A ++ [39]) (t := q) (B := [39] ++ B)
    rw [List.length_append] at this
    exact this
  have w1 : wr.i64 (((A.length + (q.length + 2) : Nat) : Int) - 1) = ((A.length + 1 + q.length : Nat) : Int) := by rw [wr_i64 (by omega) (by omega)]; omega
  rw [if_pos (by simp only [decide_eq_true_eq]; omega), w1, if_pos (by omega), Int.toNat_natCast, Int.toNat_natCast, ee]
  congr 2
  simp only [List.length_cons, List.length_append, List.length_nil]
theorem lexEnd {k : Nat} (hk : 4000 ≤ k) {A : List UInt8} (hs : (A ++ [32] ++ [46]).length ≤ 3000) :
    pQ_l05Sign k (bs (A ++ [32] ++ [46])) ((A.length + 1 : Nat) : Int) = some (GSign.mk 5 (bs [46]) 0 ((A.length + 1 : Nat) : Int) false, ((A.length + 2 : Nat) : Int)) := by
  have hL : A.length + 2 ≤ 3000 := by simp only [List.length_append, List.length_cons, List.length_nil] at hs; omega
  have hA : (A ++ [32]).length = A.length + 1 := by simp
  have e0 : A ++ [32] ++ [46] = (A ++ [32]) ++ [46] ++ [] := by simp
  have hs' : ((A ++ [32]) ++ [46] ++ []).length ≤ 3000 := by rw [← e0]; exact hs
  have hsz : (bs ((A ++ [32]) ++ [46] ++ [])).size = A.length + 2 := by rw [bs_size]; simp
  have b := byteOk (k := k) (by omega) (bs ((A ++ [32]) ++ [46] ++ [])) (((A ++ [32]).length : Nat) : Int)
  have b2 := byteOk (k := k) (by omega) (bs ((A ++ [32]) ++ [46] ++ [])) ((A.length : Nat) : Int)
  have hf : bt (bs ((A ++ [32]) ++ [46] ++ [])) (((A ++ [32]).length : Nat) : Int) = ((46 : UInt8).toNat : Int) := first
  have hp : bt (bs ((A ++ [32]) ++ [46] ++ [])) ((A.length : Nat) : Int) = ((32 : UInt8).toNat : Int) := by
    have : (A ++ [32]) ++ [46] ++ [] = A ++ (32 :: [46]) ++ [] := by simp
    rw [this]
    exact first
  rw [e0, ← hA, toJ3 hk (r := []) hs' ⟨by decide, by decide, by decide, by decide⟩, show (((46 : UInt8).toNat : Int) == 59) = false by decide, toJ4 (by rw [hf]; decide) b]
  unfold pQ_l05Sign_J4
  have he : pQ_l05End k (bs ((A ++ [32]) ++ [46] ++ [])) (((A ++ [32]).length : Nat) : Int) = some true := by
    have hn : (A ++ [32]).length < (bs ((A ++ [32]) ++ [46] ++ [])).size := by rw [hsz, hA]; omega
    unfold pQ_l05End
    rw [if_pos (idx hn), hf, if_pos (by decide), hA]
    have w1 : wr.i64 (((A.length + 1 : Nat) : Int) - 1) = ((A.length : Nat) : Int) := by rw [wr_i64 (by omega) (by omega)]; omega
    rw [if_neg (by simp; omega), w1, if_pos (by rw [hsz]; exact ⟨by omega, by omega⟩), b2.sym, hp, obs, if_pos (by decide), wsucc (by omega), if_pos (by rw [hsz]; simp only [beq_iff_eq] <;> omega)]
  rw [if_neg (by decide), he, obs, if_pos rfl, hA, wsucc (by omega), Int.toNat_natCast, Int.toNat_natCast]
  have := ext_mid (A := A ++ [32]) (t := [46]) (B := [])
  rw [hA] at this
  rw [show A.length + 1 + 1 = A.length + 1 + ([46] : List UInt8).length from rfl, this]
structure Tok where
  b : List UInt8
  k : Int
  t : ByteArray
  n : Int
def bytes : List (Option Tok) → List UInt8
  | [] => []
  | none :: r => 32 :: bytes r
  | some t :: r => t.b ++ bytes r
theorem bytes_app : ∀ (x y : List (Option Tok)), bytes (x ++ y) = bytes x ++ bytes y
  | [], y => rfl
  | none :: r, y => by rw [List.cons_append, bytes, bytes, bytes_app r, List.cons_append]
  | some t :: r, y => by rw [List.cons_append, bytes, bytes, bytes_app r, List.append_assoc]
def nearB : List UInt8 → Bool
  | [] => false
  | c :: _ => ((c.toNat : Int) == 40)
def sgs (E : List UInt8) : Nat → List (Option Tok) → List GSign
  | _, [] => []
  | n, none :: r => sgs E (n + 1) r
  | n, some t :: r => GSign.mk t.k t.t t.n n (nearB (bytes r ++ E)) :: sgs E (n + t.b.length) r
theorem sgs_app (E : List UInt8) : ∀ (x y : List (Option Tok)) (n : Nat), sgs E n (x ++ y) = sgs (bytes y ++ E) n x ++ sgs E (n + (bytes x).length) y
  | [], y, n => rfl
  | none :: r, y, n => by
    rw [List.cons_append, sgs, sgs, sgs_app E r, bytes, List.length_cons]
    congr 2
    omega
  | some t :: r, y, n => by
    rw [List.cons_append, sgs, sgs, sgs_app E r, bytes, List.length_append, bytes_app, List.append_assoc, List.cons_append]
    congr 3
    omega
def Lexes (t : Tok) (B : List UInt8) : Prop :=
  (∃ c r, t.b = c :: r ∧ ((c.toNat : Int) == 32) = false ∧ ((c.toNat : Int) == 9) = false ∧ ((c.toNat : Int) == 10) = false ∧ ((c.toNat : Int) == 37) = false) ∧
  ∀ (k : Nat) (A : List UInt8), maxLen < k → (A ++ t.b ++ B).length ≤ 3000 → pQ_l05Sign k (bs (A ++ t.b ++ B)) (A.length : Int) = some (GSign.mk t.k t.t t.n A.length false, ((A.length + t.b.length : Nat) : Int))
def Good (E : List UInt8) : List (Option Tok) → Prop
  | [] => True
  | none :: r => Good E r
  | some t :: r => Lexes t (bytes r ++ E) ∧ Good E r
theorem Good.app {E : List UInt8} : ∀ {x y : List (Option Tok)}, Good (bytes y ++ E) x → Good E y → Good E (x ++ y)
  | [], y, _, h => h
  | none :: r, y, h, g => Good.app (x := r) h g
  | some t :: r, y, h, g => ⟨by show Lexes t (bytes (r ++ y) ++ E); rw [bytes_app, List.append_assoc]; exact h.1, Good.app (x := r) h.2 g⟩
theorem lexAll {k : Nat} (hk : maxLen < k) {E : List UInt8} : ∀ (r : List (Option Tok)) (m : Nat) (A : List UInt8) (acc : List GSign), Good E r → (A ++ (bytes r ++ E)).length ≤ 3000 → acc.length ≤ A.length →
    pQ_SignsOf_L1 k (bs (A ++ (bytes r ++ E))) (m + r.length) acc (A.length : Int) = pQ_SignsOf_L1 k (bs (A ++ (bytes r ++ E))) m (acc ++ sgs E A.length r) ((A.length + (bytes r).length : Nat) : Int)
  | [], m, A, acc, hg, hs, ha => by simp [sgs, bytes]
  | none :: r, m, A, acc, hg, hs, ha => by
    have hM := maxLen_eq
    have e : A ++ (bytes (none :: r) ++ E) = (A ++ [32]) ++ (bytes r ++ E) := by simp [bytes]
    have e2 : A ++ (bytes (none :: r) ++ E) = A ++ (32 :: []) ++ (bytes r ++ E) := by simp [bytes]
    have hsz : (bs (A ++ (bytes (none :: r) ++ E))).size = A.length + (1 + ((bytes r).length + E.length)) := by rw [bs_size, e2]; simp only [List.length_append, List.length_cons, List.length_nil] <;> omega
    have hL : A.length + (1 + ((bytes r).length + E.length)) ≤ 3000 := by rw [← hsz, bs_size]; exact hs
    have hlt : A.length < (bs (A ++ (bytes (none :: r) ++ E))).size := by omega
    have hb : bt (bs (A ++ (bytes (none :: r) ++ E))) (A.length : Int) = ((32 : UInt8).toNat : Int) := by rw [e2]; exact first
    have ih := lexAll hk r m (A ++ [32]) acc hg (by rw [← e]; exact hs) (by simp; omega)
    rw [← e] at ih
    have hA : (A ++ [32]).length = A.length + 1 := by simp
    rw [hA] at ih
    rw [List.length_cons, ← Nat.add_assoc, pQ_SignsOf_L1, if_pos (lt_t hlt), if_pos (idx hlt), hb]
    unfold pQ_l05Blank
    rw [if_pos (by decide), obs, if_pos rfl, wsucc (by omega), ih, sgs, bytes, List.length_cons]
    congr 2
    omega
  | some t :: r, m, A, acc, hg, hs, ha => by
    have hM := maxLen_eq
    obtain ⟨⟨⟨c, tr, hc, n1, n2, n3, n4⟩, hlex⟩, hg2⟩ := hg
    have e : A ++ (bytes (some t :: r) ++ E) = (A ++ t.b) ++ (bytes r ++ E) := by simp [bytes]
    have e2 : A ++ (bytes (some t :: r) ++ E) = A ++ (c :: tr) ++ (bytes r ++ E) := by rw [e, hc]
    have htl : 1 ≤ t.b.length := by rw [hc]; simp
    have hsz : (bs (A ++ (bytes (some t :: r) ++ E))).size = A.length + (t.b.length + ((bytes r).length + E.length)) := by rw [bs_size, e]; simp only [List.length_append] <;> omega
    have hL : A.length + (t.b.length + ((bytes r).length + E.length)) ≤ 3000 := by rw [← hsz, bs_size]; exact hs
    have hlt : A.length < (bs (A ++ (bytes (some t :: r) ++ E))).size := by omega
    have hb : bt (bs (A ++ (bytes (some t :: r) ++ E))) (A.length : Int) = (c.toNat : Int) := by rw [e2]; exact first
    have hA : (A ++ t.b).length = A.length + t.b.length := List.length_append
    have hl2 := hlex k A hk (by rw [← e]; exact hs)
    rw [← e] at hl2
    rw [List.length_cons, ← Nat.add_assoc, pQ_SignsOf_L1, if_pos (lt_t hlt), if_pos (idx hlt), hb]
    unfold pQ_l05Blank
    rw [if_neg (by rw [n1]; decide), if_neg (by rw [n2]; decide), n3, obs, if_neg (by decide), if_pos (idx hlt), if_neg (by rw [n4]; decide), hl2]
    simp only [obs]
    have fin : pQ_SignsOf_L1 k (bs (A ++ (bytes (some t :: r) ++ E))) (m + r.length) (acc ++ [GSign.mk t.k t.t t.n A.length (nearB (bytes r ++ E))]) ((A.length + t.b.length : Nat) : Int) =
        pQ_SignsOf_L1 k (bs (A ++ (bytes (some t :: r) ++ E))) m (acc ++ sgs E A.length (some t :: r)) ((A.length + (bytes (some t :: r)).length : Nat) : Int) := by
      have ih := lexAll hk r m (A ++ t.b) (acc ++ [GSign.mk t.k t.t t.n A.length (nearB (bytes r ++ E))]) hg2 (by rw [← e]; exact hs) (by rw [hA, List.length_append]; simp; omega)
      rw [← e, hA] at ih
      rw [ih, sgs, bytes, List.length_append]
      congr 1
      · simp
      · omega
    by_cases hend : A.length + t.b.length < (bs (A ++ (bytes (some t :: r) ++ E))).size
    · obtain ⟨d, B, hd⟩ : ∃ d B, bytes r ++ E = d :: B := by
        cases hh : bytes r ++ E with
        | nil =>
          have : (bytes r ++ E).length = 0 := by rw [hh]; rfl
          rw [List.length_append] at this
          omega
        | cons d B => exact ⟨d, B, rfl⟩
      have hbd : bt (bs (A ++ (bytes (some t :: r) ++ E))) ((A.length + t.b.length : Nat) : Int) = (d.toNat : Int) := by
        rw [e]
        exact bt_behind (by rw [hd]; rfl)
      rw [if_pos (lt_t hend), if_pos (idx hend), if_pos (by rw [List.length_singleton]; omega), hbd]
      rw [hd] at fin
      exact fin
    · have hr : bytes r ++ E = [] := by
        apply List.eq_nil_of_length_eq_zero
        rw [List.length_append]
        omega
      rw [if_neg (lt_f hend), if_pos (by rw [List.length_singleton]; omega)]
      rw [hr] at fin
      exact fin
theorem signsOf {k : Nat} (hk : maxLen < k) {r : List (Option Tok)} (hg : Good [32, 46] r) (hs : (bytes r).length ≤ 2900) :
    pQ_SignsOf k (bs (bytes r ++ [32, 46])) = some (sgs [32, 46] 0 r ++ [GSign.mk 5 (bs [46]) 0 (((bytes r).length + 1 : Nat) : Int) false], true) := by
  have hM := maxLen_eq
  have hr : r.length ≤ (bytes r).length := by
    clear hs
    induction r with
    | nil => simp
    | cons x r ih =>
      cases x with
      | none => have := ih hg; rw [bytes, List.length_cons, List.length_cons]; omega
      | some t =>
        have := ih hg.2
        obtain ⟨⟨⟨c, tr, hc, _⟩, _⟩, _⟩ := hg
        rw [bytes, List.length_append, List.length_cons, hc, List.length_cons]
        omega
  have hsz : (bs (bytes r ++ [32, 46])).size = (bytes r).length + 2 := by rw [bs_size]; simp
  unfold pQ_SignsOf
  rw [if_neg (by rw [hsz]; simp; omega)]
  obtain ⟨m, rfl⟩ : ∃ m, k = m + 3 + r.length := ⟨k - 3 - r.length, by omega⟩
  have e := lexAll (k := m + 3 + r.length) hk (E := [32, 46]) r (m + 3) [] [] hg (by simp; omega) (Nat.le_refl _)
  rw [List.nil_append, List.nil_append, List.length_nil, Nat.zero_add, show ((0 : Nat) : Int) = 0 from rfl] at e
  rw [e]
  have hlt : (bytes r).length < (bs (bytes r ++ [32, 46])).size := by omega
  have hlt2 : (bytes r).length + 1 < (bs (bytes r ++ [32, 46])).size := by omega
  have hb : bt (bs (bytes r ++ [32, 46])) ((bytes r).length : Int) = ((32 : UInt8).toNat : Int) := by
    have := first (A := bytes r) (c := 32) (r := [46]) (B := [])
    rwa [List.append_nil] at this
  have hb2 : bt (bs (bytes r ++ [32, 46])) (((bytes r).length + 1 : Nat) : Int) = ((46 : UInt8).toNat : Int) := by
    have := first (A := bytes r ++ [32]) (c := 46) (r := []) (B := [])
    rw [List.append_nil, List.append_assoc, List.length_append] at this
    exact this
  have hl := lexEnd (k := m + 3 + r.length) (by omega) (A := bytes r) (by simp; omega)
  rw [List.append_assoc] at hl
  have hl : pQ_l05Sign (m + 3 + r.length) (bs (bytes r ++ [32, 46])) (((bytes r).length + 1 : Nat) : Int) = some (GSign.mk 5 (bs [46]) 0 (((bytes r).length + 1 : Nat) : Int) false, (((bytes r).length + 2 : Nat) : Int)) := hl
  have hlen : (sgs [32, 46] 0 r).length ≤ 100000 := by
    have : ∀ (r : List (Option Tok)) (n : Nat), (sgs [32, 46] n r).length ≤ r.length := by
      intro r
      induction r with
      | nil => intro n; simp [sgs]
      | cons x r ih =>
        intro n
        cases x with
        | none => have := ih (n + 1); rw [sgs, List.length_cons]; omega
        | some t => have := ih (n + t.b.length); rw [sgs, List.length_cons, List.length_cons]; omega
    have := this r 0
    omega
  rw [pQ_SignsOf_L1, if_pos (lt_t hlt), if_pos (idx hlt), hb]
  unfold pQ_l05Blank
  rw [if_pos (by decide), obs, if_pos rfl, wsucc (by omega)]
  rw [pQ_SignsOf_L1, if_pos (lt_t hlt2), if_pos (idx hlt2), hb2]
  unfold pQ_l05Blank
  rw [if_neg (by decide), if_neg (by decide), obs, if_neg (by decide), if_pos (idx hlt2), if_neg (by decide), hl]
  simp only [obs]
  rw [if_neg (by rw [hsz]; simp), if_pos (by rw [List.length_singleton]; omega), pQ_SignsOf_L1, if_neg (by rw [hsz]; simp), obs]
inductive D where
  | v (n : Nat)
  | a (t : Tok)
  | q (t : Tok)
  | e
  | i (t : Tok)
  | m
  | p (x y : D)
  | o (t : Tok) (x y : D)
  | f1 (t : Tok) (x : D)
  | f2 (t : Tok) (x y : D)
  | f3 (t : Tok) (x y z : D)
def aT : List Tok := [⟨[97], 1, bs [97], 0⟩, ⟨[98], 1, bs [98], 0⟩, ⟨[39, 66, 105, 103, 39], 1, bs [66, 105, 103], 0⟩, ⟨[120], 1, bs [120], 0⟩, ⟨[61, 46, 46], 1, bs [61, 46, 46], 0⟩]
def qT : List Tok := [⟨[43], 1, bs [43], 0⟩, ⟨[58, 45], 1, bs [58, 45], 0⟩]
def iT : List Tok := [⟨[48], 3, bs [], 0⟩, ⟨[49], 3, bs [], 1⟩, ⟨[57, 57, 57, 57, 57, 57, 57, 57, 57], 3, bs [], 999999999⟩]
def oT : List Tok := [⟨[43], 1, bs [43], 0⟩, ⟨[61], 1, bs [61], 0⟩, ⟨[44], 4, bs [44], 0⟩, ⟨[59], 1, bs [59], 0⟩, ⟨[45], 1, bs [45], 0⟩]
def fT : List Tok := [⟨[102], 1, bs [102], 0⟩, ⟨[103], 1, bs [103], 0⟩, ⟨[45], 1, bs [45], 0⟩, ⟨[39, 91, 93, 39], 1, bs [91, 93], 0⟩]
def gT2 : List Tok := [⟨[102], 1, bs [102], 0⟩, ⟨[103], 1, bs [103], 0⟩, ⟨[39, 91, 93, 39], 1, bs [91, 93], 0⟩]
def vT (n : Nat) : Tok := ⟨[95, 48 + n.toUInt8], 2, bs [95, 48 + n.toUInt8], 0⟩
def minus : Tok := ⟨[45], 1, bs [45], 0⟩
def seven : Tok := ⟨[55], 3, bs [], 7⟩
def D.ok : D → Prop
  | .v n => n < 4
  | .a t => t ∈ aT
  | .q t => t ∈ qT
  | .e => True
  | .i t => t ∈ iT
  | .m => True
  | .p x y => x.ok ∧ y.ok
  | .o t x y => t ∈ oT ∧ x.ok ∧ y.ok
  | .f1 t x => t ∈ fT ∧ x.ok
  | .f2 t x y => t ∈ gT2 ∧ x.ok ∧ y.ok
  | .f3 t x y z => t ∈ fT ∧ x.ok ∧ y.ok ∧ z.ok
def D.g : D → GTerm
  | .v n => .mk 1 (bs []) n []
  | .a t => .mk 2 t.t 0 []
  | .q t => .mk 2 t.t 0 []
  | .e => .mk 2 (bs [91, 93]) 0 []
  | .i t => .mk 3 (bs []) t.n []
  | .m => .mk 3 (bs []) (-7) []
  | .p x y => .mk 4 (bs [46]) 0 [x.g, y.g]
  | .o t x y => .mk 4 t.t 0 [x.g, y.g]
  | .f1 t x => .mk 4 t.t 0 [x.g]
  | .f2 t x y => .mk 4 t.t 0 [x.g, y.g]
  | .f3 t x y z => .mk 4 t.t 0 [x.g, y.g, z.g]
def D.dep : D → Nat
  | .p x y => 1 + max x.dep y.dep
  | .o _ x y => 1 + max x.dep y.dep
  | .f1 _ x => 1 + x.dep
  | .f2 _ x y => 1 + max x.dep y.dep
  | .f3 _ x y z => 1 + max x.dep (max y.dep z.dep)
  | _ => 0
def mk (c : UInt8) : Option Tok := some ⟨[c], 4, bs [c], 0⟩
def D.w : D → List (Option Tok) × List (Option Tok)
  | .v n => ([some (vT n)], [mk 124, some (vT n)])
  | .a t => ([some t], [mk 124, some t])
  | .q t => ([mk 40, some t, mk 41], [mk 124, mk 40, some t, mk 41])
  | .e => ([mk 91, mk 93], [])
  | .i t => ([some t], [mk 124, some t])
  | .m => ([some minus, some seven], [mk 124, some minus, some seven])
  | .p x y => (mk 91 :: (x.w.1 ++ (y.w.2 ++ [mk 93])), mk 44 :: (x.w.1 ++ y.w.2))
  | .o t x y => let r := mk 40 :: (x.w.1 ++ (none :: some t :: none :: (y.w.1 ++ [mk 41]))); (r, mk 124 :: r)
  | .f1 t x => let r := some t :: mk 40 :: (x.w.1 ++ [mk 41]); (r, mk 124 :: r)
  | .f2 t x y => let r := some t :: mk 40 :: (x.w.1 ++ (mk 44 :: (y.w.1 ++ [mk 41]))); (r, mk 124 :: r)
  | .f3 t x y z => let r := some t :: mk 40 :: (x.w.1 ++ (mk 44 :: (y.w.1 ++ (mk 44 :: (z.w.1 ++ [mk 41]))))); (r, mk 124 :: r)
def D.b (d : D) : List UInt8 := bytes d.w.1
def D.rb (d : D) : List UInt8 := bytes d.w.2
theorem bs_app (x y : List UInt8) : bs x ++ bs y = bs (x ++ y) := by
  apply ByteArray.ext
  simp [bs]
theorem b_p (x y : D) : (D.p x y).b = 91 :: (x.b ++ (y.rb ++ [93])) := by
  show bytes (D.w (D.p x y)).1 = 91 :: (bytes x.w.1 ++ (bytes y.w.2 ++ [93]))
  rw [D.w]; simp only [bytes, bytes_app, mk, List.cons_append, List.nil_append, List.append_nil]
theorem rb_p (x y : D) : (D.p x y).rb = 44 :: (x.b ++ y.rb) := by
  show bytes (D.w (D.p x y)).2 = 44 :: (bytes x.w.1 ++ bytes y.w.2)
  rw [D.w]; simp only [bytes, bytes_app, mk, List.cons_append, List.nil_append, List.append_nil]
theorem b_o (t : Tok) (x y : D) : (D.o t x y).b = 40 :: (x.b ++ (32 :: (t.b ++ (32 :: (y.b ++ [41]))))) := by unfold D.b; rw [D.w]; simp only [bytes, bytes_app, mk, List.cons_append, List.nil_append, List.append_nil]
theorem b_f1 (t : Tok) (x : D) : (D.f1 t x).b = t.b ++ (40 :: (x.b ++ [41])) := by unfold D.b; rw [D.w]; simp only [bytes, bytes_app, mk, List.cons_append, List.nil_append, List.append_nil]
theorem b_f2 (t : Tok) (x y : D) : (D.f2 t x y).b = t.b ++ (40 :: (x.b ++ (44 :: (y.b ++ [41])))) := by unfold D.b; rw [D.w]; simp only [bytes, bytes_app, mk, List.cons_append, List.nil_append, List.append_nil]
theorem b_f3 (t : Tok) (x y z : D) : (D.f3 t x y z).b = t.b ++ (40 :: (x.b ++ (44 :: (y.b ++ (44 :: (z.b ++ [41])))))) := by unfold D.b; rw [D.w]; simp only [bytes, bytes_app, mk, List.cons_append, List.nil_append, List.append_nil]
theorem b_q (t : Tok) : (D.q t).b = 40 :: (t.b ++ [41]) := by unfold D.b; rw [D.w]; simp only [bytes, bytes_app, mk, List.cons_append, List.nil_append, List.append_nil]
theorem b_a (t : Tok) : (D.a t).b = t.b := by unfold D.b; rw [D.w]; simp only [bytes, List.append_nil]
theorem b_i (t : Tok) : (D.i t).b = t.b := by unfold D.b; rw [D.w]; simp only [bytes, List.append_nil]
def sO : Option ByteArray → ByteArray → Bool | some a, b => sEq a b | none, _ => false
theorem sO_iff {x : Option ByteArray} {b : ByteArray} (h : sO x b = true) : x = some b := by
  cases x with
  | none => cases h
  | some a => rw [sEq_iff.1 h]
theorem aAll (n : Nat) : (aT.all fun t => (sO (pQ_AtomText (n + 100) t.t) (bs t.b)) && ((pQ_l07Op (n + 100) t.t == some false) && !(sEq t.t (bs [91, 93])))) = true := by kernel_rfl
theorem qAll (n : Nat) : (qT.all fun t => (sO (pQ_AtomText (n + 100) t.t) (bs t.b)) && ((pQ_l07Op (n + 100) t.t == some true) && !(sEq t.t (bs [91, 93])))) = true := by kernel_rfl
theorem iAll (n : Nat) : (iT.all fun t => (sO (pQ_Decimal (n + 100) t.n) (bs t.b)) && !decide (t.n < 0)) = true := by kernel_rfl
theorem vAll (n : Nat) : ((List.range 4).all fun j => (sO (pQ_Decimal (n + 100) (j : Int)) (bs [48 + j.toUInt8]))) = true := by kernel_rfl
theorem mAll (n : Nat) : (sO (pQ_Decimal (n + 100) 7) (bs [55])) = true := by kernel_rfl
def ifx : Option (GOp × Bool) → Bool | some r => r.2 | none => false
theorem oAll (n : Nat) : (oT.all fun t => (pQ_AtomText (n + 100) t.t).isSome && ((sEq t.t (bs [44]) || (sO (pQ_AtomText (n + 100) t.t) (bs t.b))) && (ifx (pQ_InfixOf (n + 100) t.t) && !(sEq t.t (bs [46]))))) = true := by kernel_rfl
theorem oComma : (oT.all fun t => !(sEq t.t (bs [44])) || decide (t.b = [44])) = true := by kernel_rfl
theorem fAll (n : Nat) : (fT.all fun t => (sO (pQ_AtomText (n + 100) t.t) (bs t.b)) && (!(sEq t.t (bs [46])))) = true := by kernel_rfl
theorem gAll (n : Nat) : (gT2.all fun t => (sO (pQ_AtomText (n + 100) t.t) (bs t.b)) && (!(sEq t.t (bs [46])) && (pQ_InfixOf (n + 100) t.t).isSome && !ifx (pQ_InfixOf (n + 100) t.t))) = true := by kernel_rfl
theorem so {a b : ByteArray} (h : a.size + b.size ≤ 1000000) : sumOk a b := by unfold sumOk; omega
theorem tok_a {k : Nat} (hk : 100 ≤ k) {t : Tok} (h : t ∈ aT) : pQ_AtomText k t.t = some (bs t.b) ∧ pQ_l07Op k t.t = some false ∧ sEq t.t (bs [91, 93]) = false := by
  obtain ⟨n, rfl⟩ : ∃ n, k = n + 100 := ⟨k - 100, by omega⟩
  have := List.all_eq_true.1 (aAll n) t h
  simp only [Bool.and_eq_true, beq_iff_eq, Bool.not_eq_true'] at this
  exact ⟨sO_iff this.1, this.2.1, this.2.2⟩
theorem tok_q {k : Nat} (hk : 100 ≤ k) {t : Tok} (h : t ∈ qT) : pQ_AtomText k t.t = some (bs t.b) ∧ pQ_l07Op k t.t = some true ∧ sEq t.t (bs [91, 93]) = false := by
  obtain ⟨n, rfl⟩ : ∃ n, k = n + 100 := ⟨k - 100, by omega⟩
  have := List.all_eq_true.1 (qAll n) t h
  simp only [Bool.and_eq_true, beq_iff_eq, Bool.not_eq_true'] at this
  exact ⟨sO_iff this.1, this.2.1, this.2.2⟩
theorem tok_i {k : Nat} (hk : 100 ≤ k) {t : Tok} (h : t ∈ iT) : pQ_Decimal k t.n = some (bs t.b) ∧ decide (t.n < 0) = false := by
  obtain ⟨n, rfl⟩ : ∃ n, k = n + 100 := ⟨k - 100, by omega⟩
  have := List.all_eq_true.1 (iAll n) t h
  simp only [Bool.and_eq_true, beq_iff_eq, Bool.not_eq_true'] at this
  exact ⟨sO_iff this.1, this.2⟩
theorem tok_v {k : Nat} (hk : 100 ≤ k) {j : Nat} (h : j < 4) : pQ_Decimal k (j : Int) = some (bs [48 + j.toUInt8]) := by
  obtain ⟨n, rfl⟩ : ∃ n, k = n + 100 := ⟨k - 100, by omega⟩
  exact sO_iff (List.all_eq_true.1 (vAll n) j (List.mem_range.2 h))
theorem tok_m {k : Nat} (hk : 100 ≤ k) : pQ_Decimal k 7 = some (bs [55]) := by
  obtain ⟨n, rfl⟩ : ∃ n, k = n + 100 := ⟨k - 100, by omega⟩
  exact sO_iff (mAll n)
theorem tok_f {k : Nat} (hk : 100 ≤ k) {t : Tok} (h : t ∈ fT) : pQ_AtomText k t.t = some (bs t.b) ∧ sEq t.t (bs [46]) = false := by
  obtain ⟨n, rfl⟩ : ∃ n, k = n + 100 := ⟨k - 100, by omega⟩
  have := List.all_eq_true.1 (fAll n) t h
  simp only [Bool.and_eq_true, beq_iff_eq, Bool.not_eq_true'] at this
  exact ⟨sO_iff this.1, this.2⟩
theorem tok_g {k : Nat} (hk : 100 ≤ k) {t : Tok} (h : t ∈ gT2) : pQ_AtomText k t.t = some (bs t.b) ∧ sEq t.t (bs [46]) = false ∧ ∃ r, pQ_InfixOf k t.t = some r ∧ r.2 = false := by
  obtain ⟨n, rfl⟩ : ∃ n, k = n + 100 := ⟨k - 100, by omega⟩
  have := List.all_eq_true.1 (gAll n) t h
  simp only [Bool.and_eq_true, beq_iff_eq, Bool.not_eq_true'] at this
  obtain ⟨h1, ⟨h2, h3⟩, h4⟩ := this
  obtain ⟨r, hr⟩ := Option.isSome_iff_exists.1 h3
  refine ⟨sO_iff h1, h2, r, hr, ?_⟩
  rw [hr] at h4
  exact h4
theorem tok_o {k : Nat} (hk : 100 ≤ k) {t : Tok} (h : t ∈ oT) : (∃ z, pQ_AtomText k t.t = some z ∧ (sEq t.t (bs [44]) = false → z = bs t.b)) ∧ (∃ r, pQ_InfixOf k t.t = some r ∧ r.2 = true) ∧ sEq t.t (bs [46]) = false ∧ (sEq t.t (bs [44]) = true → t.b = [44]) := by
  obtain ⟨n, rfl⟩ : ∃ n, k = n + 100 := ⟨k - 100, by omega⟩
  have h1 := List.all_eq_true.1 (oAll n) t h
  have h2 := List.all_eq_true.1 oComma t h
  simp only [Bool.and_eq_true, Bool.or_eq_true, beq_iff_eq, Bool.not_eq_true', decide_eq_true_eq] at h1 h2
  obtain ⟨a1, a2, a3, a4⟩ := h1
  obtain ⟨z, hz⟩ := Option.isSome_iff_exists.1 a1
  refine ⟨⟨z, hz, fun hc => ?_⟩, ?_, a4, fun hc => ?_⟩
  · rcases a2 with a2 | a2
    · rw [a2] at hc; cases hc
    · have := sO_iff a2; rw [hz] at this; exact oInj this
  · cases hr : pQ_InfixOf (n + 100) t.t with
    | none => rw [hr] at a3; cases a3
    | some r => rw [hr] at a3; exact ⟨r, rfl, a3⟩
  · rcases h2 with h2 | h2
    · rw [h2] at hc; cases hc
    · exact h2
theorem infixAny (k : Nat) (s : ByteArray) : ∃ r, pQ_InfixOf k s = some r := by
  have J3 : ∀ b, ∃ r, pQ_InfixOf_J3 k s b = some r := fun b => by unfold pQ_InfixOf_J3; (repeat' split) <;> exact ⟨_, rfl⟩
  have J2 : ∀ b, ∃ r, pQ_InfixOf_J2 k s b = some r := fun b => by unfold pQ_InfixOf_J2; (repeat' split) <;> first | exact ⟨_, rfl⟩ | exact J3 _
  have J1 : ∀ b, ∃ r, pQ_InfixOf_J1 k s b = some r := fun b => by unfold pQ_InfixOf_J1; (repeat' split) <;> first | exact ⟨_, rfl⟩ | exact J2 _
  unfold pQ_InfixOf
  split <;> exact J1 _
def fits (d : D) : Prop := d.b.length ≤ 400000 ∧ d.rb.length ≤ 400000
theorem isNo {k : Nat} {x : GTerm} {s : ByteArray} {n : Int} (h : (x.gKind == 4) = false ∨ sEq x.gName s = false) : pQ_l03Is k x s n = some false := by
  unfold pQ_l03Is
  rcases h with h | h
  · rw [if_neg (by rw [h]; decide)]
  · split
    · rw [if_neg (by rw [h]; decide)]
    · rfl
theorem isPair {k : Nat} {x y : GTerm} : pQ_l03Is k (.mk 4 (bs [46]) 0 [x, y]) (bs [46]) 2 = some true := by
  unfold pQ_l03Is
  rw [mk_gKind, mk_gName, if_pos (by decide), if_pos (sEq_refl _)]
  rfl
theorem notPair {k : Nat} {d : D} (h : ∀ x y, d ≠ .p x y) (hok : d.ok) : pQ_l03Is k d.g (bs [46]) 2 = some false := by
  cases d with
  | p x y => exact absurd rfl (h x y)
  | o t x y => exact isNo (.inr (tok_o (k := 100) (by omega) hok.1).2.2.1)
  | f1 t x => exact isNo (.inr (tok_f (k := 100) (by omega) hok.1).2)
  | f2 t x y => exact isNo (.inr (tok_g (k := 100) (by omega) hok.1).2.1)
  | f3 t x y z => exact isNo (.inr (tok_f (k := 100) (by omega) hok.1).2)
  | _ => exact isNo (.inl rfl)
theorem rb_other {d : D} (h1 : ∀ x y, d ≠ .p x y) (h2 : d ≠ .e) : d.rb = 124 :: d.b := by
  cases d with
  | p x y => exact absurd rfl (h1 x y)
  | e => exact absurd rfl h2
  | _ => rfl
theorem kindNE {d : D} (h2 : d ≠ .e) (hok : d.ok) : ((d.g.gKind == 2) && sEq d.g.gName (bs [91, 93])) = false := by
  cases d with
  | e => exact absurd rfl h2
  | a t => show ((2 : Int) == 2 && sEq t.t (bs [91, 93])) = false; rw [(tok_a (k := 100) (by omega) hok).2.2]; rfl
  | q t => show ((2 : Int) == 2 && sEq t.t (bs [91, 93])) = false; rw [(tok_q (k := 100) (by omega) hok).2.2]; rfl
  | _ => rfl
theorem bsz (L : List UInt8) : (bs L).size = L.length := bs_size L
theorem rows {k N : Nat} (H : ∀ u : D, u.dep ≤ N → u.ok → u.b.length ≤ 400000 → pQ_l07Write k u.g = some (bs u.b)) : ∀ (d : D), d.dep ≤ N → d.ok → ∀ (a : D) (m : Nat) (s : List UInt8), s.length + d.rb.length ≤ 400000 → d.dep < m →
    ∃ s' z l, pQ_l07Row_L1 k (pQ_l07Row k) (pQ_l07Write k) m (bs s) (.mk 4 (bs [46]) 0 [a.g, d.g]) = some (.done (bs s', .mk 4 (bs [46]) 0 l)) ∧ at' l 1 = some z ∧
      ((z = .mk 2 (bs [91, 93]) 0 [] ∧ s' = s ++ d.rb) ∨ (((z.gKind == 2) && sEq z.gName (bs [91, 93])) = false ∧ ∃ u : D, z = u.g ∧ s' ++ (124 :: u.b) = s ++ d.rb ∧ u.dep ≤ d.dep ∧ u.ok)) := by
  intro d
  induction d with
  | p x y ihx ihy =>
    intro hd hok a m s hs hm
    cases m with
    | zero => omega
    | succ m =>
      have hdep : 1 + max x.dep y.dep ≤ N := hd
      have hdm : 1 + max x.dep y.dep < m + 1 := hm
      rw [rb_p] at hs ⊢
      simp only [List.length_cons, List.length_append] at hs
      obtain ⟨s', z, l, e1, e2, e3⟩ := ihy (by omega) hok.2 x m (s ++ [44] ++ x.b) (by simp only [List.length_cons, List.length_append, List.length_nil]; omega) (by omega)
      refine ⟨s', z, l, ?_, e2, ?_⟩
      · rw [pQ_l07Row_L1, mk_gKids, show at' [a.g, (D.p x y).g] 1 = some (D.p x y).g from rfl, obs, show (D.p x y).g = .mk 4 (bs [46]) 0 [x.g, y.g] from rfl, isPair, obs, if_pos rfl, obs, if_pos (so (by rw [bsz, bsz]; simp only [List.length_cons, List.length_nil]; omega)), mk_gKids,
          show at' [x.g, y.g] 0 = some x.g from rfl, obs, H x (by omega) hok.1 (by omega), obs, bs_app, if_pos (so (by rw [bsz, bsz]; simp only [List.length_cons, List.length_append, List.length_nil]; omega)), bs_app]
        exact e1
      · rcases e3 with ⟨h1, h2⟩ | ⟨h1, u, h2, h3, h4, h5⟩
        · exact .inl ⟨h1, by rw [h2]; simp⟩
        · exact .inr ⟨h1, u, h2, by rw [h3]; simp, by show u.dep ≤ 1 + max x.dep y.dep; omega, h5⟩
  | e =>
    intro hd hok a m s hs hm
    cases m with
    | zero => omega
    | succ m =>
      refine ⟨s, D.e.g, [a.g, D.e.g], ?_, rfl, .inl ⟨rfl, (List.append_nil s).symm⟩⟩
      rw [pQ_l07Row_L1, mk_gKids, show at' [a.g, D.e.g] 1 = some D.e.g from rfl, obs, notPair (fun x y h => by cases h) hok, obs, if_neg (by decide)]
  | v _ | a _ | q _ | i _ | m | o _ _ _ _ _ | f1 _ _ _ | f2 _ _ _ _ _ | f3 _ _ _ _ _ _ _ =>
    intro hd hok a m s hs hm
    cases m with
    | zero => omega
    | succ m =>
      refine ⟨s, D.g _, [a.g, D.g _], ?_, rfl, .inr ⟨kindNE (by intro h; cases h) hok, _, rfl, by rw [rb_other (by intro x y h; cases h) (by intro h; cases h)], Nat.le_refl _, hok⟩⟩
      rw [pQ_l07Row_L1, mk_gKids]
      simp only [show ∀ (x y : GTerm), at' [x, y] 1 = some y from fun _ _ => rfl, obs]
      rw [notPair (fun x y h => by cases h) hok, obs, if_neg (by decide)]
theorem L3s {k m j : Nat} {b : GTerm} {l : List GTerm} {u : D} {s : List UInt8} (hb : b.gKids = l) (hj : j < l.length) (hu : l[j] = u.g) (hl : l.length ≤ 5) (H : pQ_l07Write k u.g = some (bs u.b)) (hs : s.length + u.b.length ≤ 900000) :
    pQ_l07Write_L3 k (pQ_l07Row k) (pQ_l07Write k) b (m + 1) (bs s) (j : Int) = pQ_l07Write_L3 k (pQ_l07Row k) (pQ_l07Write k) b m (bs ((if j = 0 then s else s ++ [44]) ++ u.b)) ((j + 1 : Nat) : Int) := by
  rw [pQ_l07Write_L3, hb, if_pos (by simpa using hj)]
  have J4 : ∀ s2 : List UInt8, s2.length ≤ s.length + 1 → pQ_l07Write_J4 k (pQ_l07Row k) (pQ_l07Write k) (pQ_l07Write_L3 k (pQ_l07Row k) (pQ_l07Write k) b m) b (j : Int) (bs s2) = pQ_l07Write_L3 k (pQ_l07Row k) (pQ_l07Write k) b m (bs (s2 ++ u.b)) ((j + 1 : Nat) : Int) := by
    intro s2 hs2
    unfold pQ_l07Write_J4
    rw [hb, at_lt hj, obs, hu, H, obs, if_pos (so (by rw [bsz, bsz]; omega)), bs_app, wsucc (by omega)]
  by_cases h0 : j = 0
  · rw [if_neg (by simp; omega), if_pos h0]
    exact J4 s (by omega)
  · rw [if_pos (by simp; omega), if_neg h0, if_pos (so (by rw [bsz, bsz]; simp only [List.length_cons, List.length_nil]; omega)), bs_app]
    exact J4 (s ++ [44]) (by simp)
theorem L3e {k m : Nat} {b : GTerm} {l : List GTerm} {s : List UInt8} (hb : b.gKids = l) : pQ_l07Write_L3 k (pQ_l07Row k) (pQ_l07Write k) b (m + 1) (bs s) (l.length : Int) = some (.done (bs s)) := by
  rw [pQ_l07Write_L3, hb, if_neg (by simp)]
theorem numHead {k : Nat} {x : GTerm} (h : (x.gKind == 4) = true) (h46 : sEq x.gName (bs [46]) = false) {r : GOp × Bool} (hr : pQ_InfixOf k x.gName = some r) {g : Bool} (hg : (r.2 && ((x.gKids.length : Int) == 2)) = g) :
    pQ_l07Write (k + 1) x = pQ_l07Write_J1 k (pQ_l07Row k) (pQ_l07Write k) x g := by
  have hk : x.gKind = 4 := by simpa using h
  rw [pQ_l07Write, hk, if_neg (by decide), if_neg (by decide), if_neg (by decide), isNo (.inr h46), obs, if_neg (by decide), hr, obs]
  cases h2 : r.2 with
  | true => rw [if_pos rfl, ← hg, h2]; rfl
  | false => rw [if_neg (by decide), ← hg, h2]; rfl
theorem call {k : Nat} (hk : 100 ≤ k) {t : Tok} {l : List GTerm} {u : List UInt8} (ht : pQ_AtomText k t.t = some (bs t.b)) (hs : t.b.length + u.length ≤ 900000)
    (hL : pQ_l07Write_L3 k (pQ_l07Row k) (pQ_l07Write k) (.mk 4 t.t 0 l) k (bs (t.b ++ [40])) 0 = some (.done (bs (t.b ++ [40] ++ u)))) :
    pQ_l07Write_J1 k (pQ_l07Row k) (pQ_l07Write k) (.mk 4 t.t 0 l) false = some (bs (t.b ++ (40 :: (u ++ [41])))) := by
  unfold pQ_l07Write_J1
  rw [if_neg (by decide), mk_gName, ht, obs, if_pos (so (by rw [bsz, bsz]; simp only [List.length_cons, List.length_nil]; omega)), bs_app, hL]
  simp only [obs]
  rw [if_pos (so (by rw [bsz, bsz]; simp only [List.length_cons, List.length_append, List.length_nil]; omega)), bs_app]
  simp
def D.leaf : D → Bool
  | .p _ _ | .o _ _ _ | .f1 _ _ | .f2 _ _ _ | .f3 _ _ _ _ => false
  | _ => true
theorem writesLeaf {d : D} (hd : d.leaf = true) (hok : d.ok) {k : Nat} (hk : 200 < k) (hb : d.b.length ≤ 400000) : pQ_l07Write k d.g = some (bs d.b) := by
  obtain ⟨k, rfl⟩ : ∃ j, k = j + 1 := ⟨k - 1, by omega⟩
  cases d with
  | v j =>
    have hj : j < 4 := hok
    show pQ_l07Write (k + 1) (.mk 1 (bs []) j []) = some (bs [95, 48 + j.toUInt8])
    rw [pQ_l07Write, mk_gKind, if_pos (by decide), mk_gNum, tok_v (by omega) hj, obs, if_pos (so (by rw [bsz, bsz]; simp)), bs_app]
    rfl
  | a t =>
    obtain ⟨h1, h2, h3⟩ := tok_a (k := k) (by omega) hok
    show pQ_l07Write (k + 1) (.mk 2 t.t 0 []) = some (bs (D.a t).b)
    rw [b_a, pQ_l07Write, mk_gKind, if_neg (by decide), if_neg (by decide), if_pos (by decide), mk_gName, if_neg (by rw [h3]; decide), h2, obs, if_neg (by decide), h1, obs]
  | q t =>
    obtain ⟨h1, h2, h3⟩ := tok_q (k := k) (by omega) hok
    rw [b_q] at hb ⊢
    simp only [List.length_cons, List.length_append] at hb
    show pQ_l07Write (k + 1) (.mk 2 t.t 0 []) = _
    rw [pQ_l07Write, mk_gKind, if_neg (by decide), if_neg (by decide), if_pos (by decide), mk_gName, if_neg (by rw [h3]; decide), h2, obs, if_pos rfl, h1, obs, if_pos (so (by rw [bsz, bsz]; simp only [List.length_cons, List.length_nil]; omega)), bs_app, if_pos (so (by rw [bsz, bsz]; simp only [List.length_cons, List.length_append, List.length_nil]; omega)), bs_app]
    simp
  | e =>
    show pQ_l07Write (k + 1) (.mk 2 (bs [91, 93]) 0 []) = some (bs [91, 93])
    rw [pQ_l07Write, mk_gKind, if_neg (by decide), if_neg (by decide), if_pos (by decide), mk_gName, if_pos (sEq_refl _)]
  | i t =>
    obtain ⟨h1, h2⟩ := tok_i (k := k) (by omega) hok
    show pQ_l07Write (k + 1) (.mk 3 (bs []) t.n []) = some (bs (D.i t).b)
    rw [b_i, pQ_l07Write, mk_gKind, if_neg (by decide), if_pos (by decide), mk_gNum, h2, if_neg (by decide), h1, obs]
  | m =>
    show pQ_l07Write (k + 1) (.mk 3 (bs []) (-7) []) = some (bs [45, 55])
    rw [pQ_l07Write, mk_gKind, if_neg (by decide), if_pos (by decide), mk_gNum, if_pos (by decide), show wr.i64 (0 - (-7)) = 7 from by rw [wr_i64 (by omega) (by omega)]; rfl, tok_m (by omega), obs, if_pos (so (by rw [bsz, bsz]; simp)), bs_app]
    rfl
  | p x y => cases hd
  | o t x y => cases hd
  | f1 t x => cases hd
  | f2 t x y => cases hd
  | f3 t x y z => cases hd
theorem at2a (x y : GTerm) : at' [x, y] 0 = some x := rfl
theorem at2b (x y : GTerm) : at' [x, y] 1 = some y := rfl
theorem writesD : ∀ (n : Nat) (d : D), d.dep ≤ n → d.ok → ∀ k, 300 + 4 * n < k → d.b.length ≤ 400000 → pQ_l07Write k d.g = some (bs d.b) := by
  intro n
  induction n with
  | zero =>
    intro d hd hok k hk hb
    refine writesLeaf ?_ hok (by omega) hb
    cases d <;> first | rfl | (simp only [D.dep] at hd; omega)
  | succ n ih =>
    intro d hd hok k hk hb
    cases hlf : d.leaf with
    | true => exact writesLeaf hlf hok (by omega) hb
    | false =>
      obtain ⟨k, rfl⟩ : ∃ j, k = j + 1 := ⟨k - 1, by omega⟩
      cases d with
      | v _ | a _ | q _ | e | i _ | m => cases hlf
      | p x y =>
        have hdd : 1 + max x.dep y.dep ≤ n + 1 := hd
        rw [b_p] at hb ⊢
        simp only [List.length_cons, List.length_append, List.length_nil] at hb
        obtain ⟨k, rfl⟩ : ∃ j, k = j + 1 := ⟨k - 1, by omega⟩
        have H : ∀ u : D, u.dep ≤ n → u.ok → u.b.length ≤ 400000 → pQ_l07Write k u.g = some (bs u.b) := fun u h1 h2 h3 => ih u h1 h2 k (by omega) h3
        obtain ⟨s', z, l, e1, e2, e3⟩ := rows H y (by omega) hok.2 x k ([91] ++ x.b) (by simp only [List.length_cons, List.length_append, List.length_nil]; omega) (by omega)
        show pQ_l07Write (k + 1 + 1) (.mk 4 (bs [46]) 0 [x.g, y.g]) = _
        rw [pQ_l07Write, mk_gKind, if_neg (by decide), if_neg (by decide), if_neg (by decide), isPair, obs, if_pos rfl, pQ_l07Row, mk_gKids, at2a, obs, H x (by omega) hok.1 (by omega), obs, if_pos (so (by rw [bsz, bsz]; simp only [List.length_cons, List.length_nil]; omega)), bs_app, e1]
        simp only [obs, mk_gKids, e2]
        rcases e3 with ⟨h1, h2⟩ | ⟨h1, u, h2, h3, h4, h5⟩
        · subst h1; subst h2
          rw [mk_gKind, if_pos (by decide), mk_gName, if_pos (sEq_refl _), if_pos (so (by rw [bsz, bsz]; simp only [List.length_cons, List.length_append, List.length_nil]; omega)), bs_app]
          simp
        · have hl3 := congrArg List.length h3
          simp only [List.length_cons, List.length_append, List.length_nil] at hl3
          have hu := H u (by omega) h5 (by omega)
          have fin : (if sumOk (bs s') (bs [124]) then (pQ_l07Write k z).bind fun d632_ => if sumOk (bs s' ++ bs [124]) d632_ then if sumOk (bs s' ++ bs [124] ++ d632_) (bs [93]) then some (bs s' ++ bs [124] ++ d632_ ++ bs [93]) else none else none else none) = some (bs (91 :: (x.b ++ (y.rb ++ [93])))) := by
            rw [h2, hu, if_pos (so (by rw [bsz, bsz]; simp only [List.length_cons, List.length_nil]; omega)), obs, bs_app, if_pos (so (by rw [bsz, bsz]; simp only [List.length_cons, List.length_append, List.length_nil]; omega)), bs_app, if_pos (so (by rw [bsz, bsz]; simp only [List.length_cons, List.length_append, List.length_nil]; omega)), bs_app]
            congr 2
            have : s' ++ [124] ++ u.b = [91] ++ x.b ++ y.rb := by rw [← h3]; simp
            rw [this]
            simp
          cases hz : (z.gKind == 2) with
          | true =>
            rw [hz] at h1
            have h1 : sEq z.gName (bs [91, 93]) = false := h1
            rw [if_pos rfl, if_neg (by rw [h1]; decide), fin, obs]
          | false =>
            rw [if_neg (by decide), fin, obs]
      | o t x y =>
        have hdd : 1 + max x.dep y.dep ≤ n + 1 := hd
        rw [b_o] at hb ⊢
        simp only [List.length_cons, List.length_append, List.length_nil] at hb
        obtain ⟨⟨w, hw1, hw2⟩, ⟨r, hr1, hr2⟩, h46, hc⟩ := tok_o (k := k) (by omega) hok.1
        have J2 : pQ_l07Write_J2 k (pQ_l07Row k) (pQ_l07Write k) (.mk 4 t.t 0 [x.g, y.g]) (bs t.b) = some (bs (40 :: (x.b ++ (32 :: (t.b ++ (32 :: (y.b ++ [41]))))))) := by
          unfold pQ_l07Write_J2
          rw [mk_gKids, at2a, obs, ih x (by omega) hok.2.1 k (by omega) (by omega), obs, if_pos (so (by rw [bsz, bsz]; simp only [List.length_cons, List.length_nil]; omega)), bs_app, if_pos (so (by rw [bsz, bsz]; simp only [List.length_cons, List.length_append, List.length_nil]; omega)), bs_app, if_pos (so (by rw [bsz, bsz]; simp only [List.length_cons, List.length_append, List.length_nil]; omega)), bs_app,
            if_pos (so (by rw [bsz, bsz]; simp only [List.length_cons, List.length_append, List.length_nil]; omega)), at2b, obs, ih y (by omega) hok.2.2 k (by omega) (by omega), obs, bs_app, if_pos (so (by rw [bsz, bsz]; simp only [List.length_cons, List.length_append, List.length_nil]; omega)), bs_app, if_pos (so (by rw [bsz, bsz]; simp only [List.length_cons, List.length_append, List.length_nil]; omega)), bs_app]
          simp
        show pQ_l07Write (k + 1) (.mk 4 t.t 0 [x.g, y.g]) = _
        rw [numHead (k := k) (x := .mk 4 t.t 0 [x.g, y.g]) rfl h46 hr1 (g := true) (by rw [hr2]; rfl)]
        unfold pQ_l07Write_J1
        rw [if_pos rfl, mk_gName, hw1, obs]
        cases hq : sEq t.t (bs [44]) with
        | true =>
          have := hc hq
          rw [this] at J2 ⊢
          rw [if_pos rfl]
          exact J2
        | false =>
          rw [if_neg (by decide), hw2 hq]
          exact J2
      | f1 t x =>
        have hdd : 1 + x.dep ≤ n + 1 := hd
        rw [b_f1] at hb ⊢
        simp only [List.length_cons, List.length_append, List.length_nil] at hb
        obtain ⟨h1, h46⟩ := tok_f (k := k) (by omega) hok.1
        obtain ⟨r, hr⟩ := infixAny k t.t
        show pQ_l07Write (k + 1) (.mk 4 t.t 0 [x.g]) = _
        rw [numHead (k := k) (x := .mk 4 t.t 0 [x.g]) rfl h46 hr (g := false) (by cases r.2 <;> rfl)]
        refine call (by omega) h1 (by omega) ?_
        obtain ⟨m, rfl⟩ : ∃ m, k = m + 2 := ⟨k - 2, by omega⟩
        rw [show (0 : Int) = ((0 : Nat) : Int) from rfl, L3s (u := x) (mk_gKids ..) (by simp) rfl (by simp) (ih x (by omega) hok.2 _ (by omega) (by omega)) (by simp only [List.length_cons, List.length_append, List.length_nil]; omega), if_pos rfl]
        exact L3e (l := [x.g]) (mk_gKids ..)
      | f2 t x y =>
        have hdd : 1 + max x.dep y.dep ≤ n + 1 := hd
        rw [b_f2] at hb ⊢
        simp only [List.length_cons, List.length_append, List.length_nil] at hb
        obtain ⟨h1, h46, r, hr, hr2⟩ := tok_g (k := k) (by omega) hok.1
        show pQ_l07Write (k + 1) (.mk 4 t.t 0 [x.g, y.g]) = _
        rw [numHead (k := k) (x := .mk 4 t.t 0 [x.g, y.g]) rfl h46 hr (g := false) (by rw [hr2]; rfl)]
        have e : x.b ++ (44 :: (y.b ++ [41])) = (x.b ++ (44 :: y.b)) ++ [41] := by simp
        rw [e]
        refine call (by omega) h1 (by simp only [List.length_cons, List.length_append, List.length_nil]; omega) ?_
        obtain ⟨m, rfl⟩ : ∃ m, k = m + 3 := ⟨k - 3, by omega⟩
        rw [show (0 : Int) = ((0 : Nat) : Int) from rfl, L3s (u := x) (mk_gKids ..) (by simp) rfl (by simp) (ih x (by omega) hok.2.1 _ (by omega) (by omega)) (by simp only [List.length_cons, List.length_append, List.length_nil]; omega), if_pos rfl,
          L3s (u := y) (mk_gKids ..) (by simp) rfl (by simp) (ih y (by omega) hok.2.2 _ (by omega) (by omega)) (by simp only [List.length_cons, List.length_append, List.length_nil]; omega), if_neg (by decide)]
        have := L3e (k := m + 3) (m := m) (l := [x.g, y.g]) (b := .mk 4 t.t 0 [x.g, y.g]) (s := t.b ++ [40] ++ (x.b ++ (44 :: y.b))) (mk_gKids ..)
        rw [← this]
        congr 2
        simp
      | f3 t x y z =>
        have hdd : 1 + max x.dep (max y.dep z.dep) ≤ n + 1 := hd
        rw [b_f3] at hb ⊢
        simp only [List.length_cons, List.length_append, List.length_nil] at hb
        obtain ⟨h1, h46⟩ := tok_f (k := k) (by omega) hok.1
        obtain ⟨r, hr⟩ := infixAny k t.t
        show pQ_l07Write (k + 1) (.mk 4 t.t 0 [x.g, y.g, z.g]) = _
        rw [numHead (k := k) (x := .mk 4 t.t 0 [x.g, y.g, z.g]) rfl h46 hr (g := false) (by cases r.2 <;> rfl)]
        have e : x.b ++ (44 :: (y.b ++ (44 :: (z.b ++ [41])))) = (x.b ++ (44 :: (y.b ++ (44 :: z.b)))) ++ [41] := by simp
        rw [e]
        refine call (by omega) h1 (by simp only [List.length_cons, List.length_append, List.length_nil]; omega) ?_
        obtain ⟨m, rfl⟩ : ∃ m, k = m + 4 := ⟨k - 4, by omega⟩
        rw [show (0 : Int) = ((0 : Nat) : Int) from rfl, L3s (u := x) (mk_gKids ..) (by simp) rfl (by simp) (ih x (by omega) hok.2.1 _ (by omega) (by omega)) (by simp only [List.length_cons, List.length_append, List.length_nil]; omega), if_pos rfl,
          L3s (u := y) (mk_gKids ..) (by simp) rfl (by simp) (ih y (by omega) hok.2.2.1 _ (by omega) (by omega)) (by simp only [List.length_cons, List.length_append, List.length_nil]; omega), if_neg (by decide),
          L3s (u := z) (mk_gKids ..) (by simp) rfl (by simp) (ih z (by omega) hok.2.2.2 _ (by omega) (by omega)) (by simp only [List.length_cons, List.length_append, List.length_nil]; omega), if_neg (by decide)]
        have := L3e (k := m + 4) (m := m) (l := [x.g, y.g, z.g]) (b := .mk 4 t.t 0 [x.g, y.g, z.g]) (s := t.b ++ [40] ++ (x.b ++ (44 :: (y.b ++ (44 :: z.b))))) (mk_gKids ..)
        rw [← this]
        congr 2
        simp
def SepE (B : List UInt8) : Prop := ∃ c B', B = c :: B' ∧ (c = 32 ∨ c = 40 ∨ c = 41 ∨ c = 44 ∨ c = 93 ∨ c = 124)
theorem SepE.no {B : List UInt8} (h : SepE B) : (∀ b, B[0]? = some b → wordb (b.toNat : Int) = false) ∧ (∀ b, B[0]? = some b → symb (b.toNat : Int) = false) ∧ (∀ b, B[0]? = some b → figb (b.toNat : Int) = false) := by
  obtain ⟨c, B', rfl, h⟩ := h
  have e : ∀ b, (c :: B')[0]? = some b → b = c := fun b hb => (oInj hb).symm
  rcases h with rfl | rfl | rfl | rfl | rfl | rfl <;> exact ⟨fun b hb => by rw [e b hb]; decide, fun b hb => by rw [e b hb]; decide, fun b hb => by rw [e b hb]; decide⟩
theorem lxMark {B : List UInt8} {c : UInt8} (h : c = 40 ∨ c = 41 ∨ c = 44 ∨ c = 91 ∨ c = 93 ∨ c = 124) : Lexes ⟨[c], 4, bs [c], 0⟩ B := by
  have hM := maxLen_eq
  refine ⟨⟨c, [], rfl, ?_⟩, fun k A hk hs => lexMark (by omega) hs ?_ ?_ ?_⟩
  · rcases h with rfl | rfl | rfl | rfl | rfl | rfl <;> decide
  · rcases h with rfl | rfl | rfl | rfl | rfl | rfl <;> exact ⟨by decide, by decide, by decide, by decide⟩
  · rcases h with rfl | rfl | rfl | rfl | rfl | rfl <;> decide
  · rcases h with rfl | rfl | rfl | rfl | rfl | rfl <;> decide
theorem lxWord {B r : List UInt8} {c : UInt8} {g : Bool} (hB : SepE B) (h0 : ((c.toNat : Int) == 32) = false ∧ ((c.toNat : Int) == 9) = false ∧ ((c.toNat : Int) == 10) = false ∧ ((c.toNat : Int) == 37) = false) (h1 : (smallb (c.toNat : Int) || greatb (c.toNat : Int)) = true) (hg : greatb (c.toNat : Int) = g) (hw : ∀ b ∈ c :: r, wordb (b.toNat : Int) = true) (h20 : (c :: r).length ≤ 20) :
    Lexes ⟨c :: r, (if g then 2 else 1), bs (c :: r), 0⟩ B := by
  have hM := maxLen_eq
  exact ⟨⟨c, r, rfl, h0⟩, fun k A hk hs => lexWord (by omega) hs h1 hg hw hB.no.1 h20⟩
theorem lxSym {B r : List UInt8} {c : UInt8} (hB : ∀ b, B[0]? = some b → symb (b.toNat : Int) = false) (h0 : ((c.toNat : Int) == 32) = false ∧ ((c.toNat : Int) == 9) = false ∧ ((c.toNat : Int) == 10) = false ∧ ((c.toNat : Int) == 37) = false) (h : Plain c) (h59 : ((c.toNat : Int) == 59) = false) (h46 : ((c.toNat : Int) == 46) = false) (hw : ∀ b ∈ c :: r, symb (b.toNat : Int) = true) (h20 : (c :: r).length ≤ 20) :
    Lexes ⟨c :: r, 1, bs (c :: r), 0⟩ B := by
  have hM := maxLen_eq
  exact ⟨⟨c, r, rfl, h0⟩, fun k A hk hs => lexSym (by omega) hs h h59 h46 hw hB h20⟩
theorem lxQuote {B q : List UInt8} (hq : ∀ b ∈ q, ((b.toNat : Int) == 39) = false) (hn : nmOk (bs q)) : Lexes ⟨39 :: (q ++ [39]), 1, bs q, 0⟩ B :=
  ⟨⟨39, q ++ [39], rfl, by decide⟩, fun k A hk hs => lexQuote hk hs hq hn⟩
theorem lxSolo {B : List UInt8} : Lexes ⟨[59], 1, bs [59], 0⟩ B := by
  have hM := maxLen_eq
  exact ⟨⟨59, [], rfl, by decide⟩, fun k A hk hs => lexSolo (by omega) hs⟩
theorem fv_mid {A t B : List UInt8} : ∀ (l j : Nat) (v : Int), j + l = t.length → fv (bs (A ++ t ++ B)) l (A.length + j) v = (t.drop j).foldl (fun v b => 10 * v + (b.toNat : Int) - 48) v
  | 0, j, v, h => by rw [fv, List.drop_of_length_le (by omega)]; rfl
  | l + 1, j, v, h => by
    have hj : j < t.length := by omega
    rw [fv, List.drop_eq_getElem_cons hj, List.foldl_cons, bt_mid (List.getElem?_eq_getElem hj), Nat.add_assoc]
    exact fv_mid l (j + 1) _ (by omega)
theorem lxInt {B r : List UInt8} {c : UInt8} {v : Int} (hB : SepE B) (h0 : ((c.toNat : Int) == 32) = false ∧ ((c.toNat : Int) == 9) = false ∧ ((c.toNat : Int) == 10) = false ∧ ((c.toNat : Int) == 37) = false) (h1 : (smallb (c.toNat : Int) || greatb (c.toNat : Int)) = false) (hf : figb (c.toNat : Int) = true) (hw : ∀ b ∈ c :: r, figb (b.toNat : Int) = true) (h9 : (c :: r).length ≤ 9)
    (hv : (c :: r).foldl (fun v b => 10 * v + (b.toNat : Int) - 48) 0 = v) (hv9 : v ≤ 999999999) : Lexes ⟨c :: r, 3, bs [], v⟩ B := by
  have hM := maxLen_eq
  refine ⟨⟨c, r, rfl, h0⟩, fun k A hk hs => lexInt (by omega) hs h1 hf hw hB.no.2.2 h9 (fun A B => ?_) hv9⟩
  have := fv_mid (A := A) (t := c :: r) (B := B) (c :: r).length 0 0 (by omega)
  rw [Nat.add_zero, List.drop_zero] at this
  rw [this]
  exact hv
theorem nmBig : nmOk (bs [66, 105, 103]) := by
  refine ⟨fun i hi => ?_, by decide, by decide⟩
  have : i < 3 := hi
  rw [show gb (bs [66, 105, 103]) i = (33 ≤ bt (bs [66, 105, 103]) (i : Int) ∧ bt (bs [66, 105, 103]) (i : Int) ≤ 126 ∧ bt (bs [66, 105, 103]) (i : Int) ≠ 39 ∧ bt (bs [66, 105, 103]) (i : Int) ≠ 34) from rfl, bt_bs]
  match i, this with
  | 0, _ => decide
  | 1, _ => decide
  | 2, _ => decide
theorem nmNil : nmOk (bs [91, 93]) := by
  refine ⟨fun i hi => ?_, by decide, by decide⟩
  have : i < 2 := hi
  rw [show gb (bs [91, 93]) i = (33 ≤ bt (bs [91, 93]) (i : Int) ∧ bt (bs [91, 93]) (i : Int) ≤ 126 ∧ bt (bs [91, 93]) (i : Int) ≠ 39 ∧ bt (bs [91, 93]) (i : Int) ≠ 34) from rfl, bt_bs]
  match i, this with
  | 0, _ => decide
  | 1, _ => decide
theorem lx_a {B : List UInt8} (hB : SepE B) {t : Tok} (h : t ∈ aT) : Lexes t B := by
  simp only [aT, List.mem_cons, List.not_mem_nil, or_false] at h
  rcases h with rfl | rfl | rfl | rfl | rfl
  · exact lxWord (g := false) hB (by decide) (by decide) (by decide) (by decide) (by decide)
  · exact lxWord (g := false) hB (by decide) (by decide) (by decide) (by decide) (by decide)
  · exact lxQuote (q := [66, 105, 103]) (by decide) nmBig
  · exact lxWord (g := false) hB (by decide) (by decide) (by decide) (by decide) (by decide)
  · exact lxSym hB.no.2.1 (by decide) ⟨by decide, by decide, by decide, by decide⟩ (by decide) (by decide) (by decide) (by decide)
theorem lx_q {B : List UInt8} (hB : SepE B) {t : Tok} (h : t ∈ qT) : Lexes t B := by
  simp only [qT, List.mem_cons, List.not_mem_nil, or_false] at h
  rcases h with rfl | rfl
  · exact lxSym hB.no.2.1 (by decide) ⟨by decide, by decide, by decide, by decide⟩ (by decide) (by decide) (by decide) (by decide)
  · exact lxSym hB.no.2.1 (by decide) ⟨by decide, by decide, by decide, by decide⟩ (by decide) (by decide) (by decide) (by decide)
theorem lx_i {B : List UInt8} (hB : SepE B) {t : Tok} (h : t ∈ iT) : Lexes t B := by
  simp only [iT, List.mem_cons, List.not_mem_nil, or_false] at h
  rcases h with rfl | rfl | rfl <;> exact lxInt hB (by decide) (by decide) (by decide) (by decide) (by decide) (by decide) (by decide)
theorem lx_o {B : List UInt8} (hB : SepE B) {t : Tok} (h : t ∈ oT) : Lexes t B := by
  simp only [oT, List.mem_cons, List.not_mem_nil, or_false] at h
  rcases h with rfl | rfl | rfl | rfl | rfl
  · exact lxSym hB.no.2.1 (by decide) ⟨by decide, by decide, by decide, by decide⟩ (by decide) (by decide) (by decide) (by decide)
  · exact lxSym hB.no.2.1 (by decide) ⟨by decide, by decide, by decide, by decide⟩ (by decide) (by decide) (by decide) (by decide)
  · exact lxMark (by decide)
  · exact lxSolo
  · exact lxSym hB.no.2.1 (by decide) ⟨by decide, by decide, by decide, by decide⟩ (by decide) (by decide) (by decide) (by decide)
theorem lx_f {B : List UInt8} (hB : SepE B) {t : Tok} (h : t ∈ fT) : Lexes t B := by
  simp only [fT, List.mem_cons, List.not_mem_nil, or_false] at h
  rcases h with rfl | rfl | rfl | rfl
  · exact lxWord (g := false) hB (by decide) (by decide) (by decide) (by decide) (by decide)
  · exact lxWord (g := false) hB (by decide) (by decide) (by decide) (by decide) (by decide)
  · exact lxSym hB.no.2.1 (by decide) ⟨by decide, by decide, by decide, by decide⟩ (by decide) (by decide) (by decide) (by decide)
  · exact lxQuote (q := [91, 93]) (by decide) nmNil
theorem gf {t : Tok} (h : t ∈ gT2) : t ∈ fT := by
  simp only [gT2, fT, List.mem_cons, List.not_mem_nil, or_false] at h ⊢
  rcases h with rfl | rfl | rfl <;> simp
theorem lx_v {B : List UInt8} (hB : SepE B) {n : Nat} (h : n < 4) : Lexes (vT n) B := by
  match n, h with
  | 0, _ => exact lxWord (g := true) hB (by decide) (by decide) (by decide) (by decide) (by decide)
  | 1, _ => exact lxWord (g := true) hB (by decide) (by decide) (by decide) (by decide) (by decide)
  | 2, _ => exact lxWord (g := true) hB (by decide) (by decide) (by decide) (by decide) (by decide)
  | 3, _ => exact lxWord (g := true) hB (by decide) (by decide) (by decide) (by decide) (by decide)
theorem lx_minus {B : List UInt8} : Lexes minus (55 :: B) :=
  lxSym (fun b hb => by rw [← oInj hb]; decide) (by decide) ⟨by decide, by decide, by decide, by decide⟩ (by decide) (by decide) (by decide) (by decide)
theorem lx_seven {B : List UInt8} (hB : SepE B) : Lexes seven B := lxInt hB (by decide) (by decide) (by decide) (by decide) (by decide) (by decide) (by decide)
theorem rb_head : ∀ d : D, d.rb = [] ∨ ∃ c B, d.rb = c :: B ∧ (c = 44 ∨ c = 124) := by
  intro d
  cases d with
  | e => exact .inl rfl
  | p x y => exact .inr ⟨44, _, rb_p x y, .inl rfl⟩
  | _ => exact .inr ⟨124, _, rfl, .inr rfl⟩
theorem rb_sep (d : D) (B : List UInt8) : SepE (d.rb ++ (93 :: B)) := by
  rcases rb_head d with h | ⟨c, C, h, hc⟩
  · exact ⟨93, B, by rw [h]; rfl, by decide⟩
  · refine ⟨c, C ++ (93 :: B), by rw [h]; rfl, ?_⟩
    rcases hc with rfl | rfl <;> decide
theorem sepC {B : List UInt8} (c : UInt8) (h : c = 32 ∨ c = 40 ∨ c = 41 ∨ c = 44 ∨ c = 93 ∨ c = 124) : SepE (c :: B) := ⟨c, B, rfl, h⟩
theorem rb_sepE (d : D) {E : List UInt8} (h : SepE E) : SepE (d.rb ++ E) := by
  rcases rb_head d with e | ⟨c, C, e, hc⟩
  · rw [e]; exact h
  · refine ⟨c, C ++ E, by rw [e]; rfl, ?_⟩
    rcases hc with rfl | rfl <;> decide
theorem goodO {E : List UInt8} (hE : SepE E) {t : Tok} {x y : D} (ht : t ∈ oT) (hx : ∀ E, SepE E → Good E x.w.1) (hy : ∀ E, SepE E → Good E y.w.1) : Good E (mk 40 :: (x.w.1 ++ (none :: some t :: none :: (y.w.1 ++ [mk 41])))) :=
  ⟨lxMark (by decide), Good.app (hx _ (sepC 32 (by decide))) ⟨lx_o (sepC 32 (by decide)) ht, Good.app (hy _ (sepC 41 (by decide))) ⟨lxMark (by decide), trivial⟩⟩⟩
theorem good1 {E : List UInt8} {t : Tok} {x : D} (ht : t ∈ fT) (hx : ∀ E, SepE E → Good E x.w.1) : Good E (some t :: mk 40 :: (x.w.1 ++ [mk 41])) :=
  ⟨lx_f (sepC 40 (by decide)) ht, lxMark (by decide), Good.app (hx _ (sepC 41 (by decide))) ⟨lxMark (by decide), trivial⟩⟩
theorem good2 {E : List UInt8} {t : Tok} {x y : D} (ht : t ∈ fT) (hx : ∀ E, SepE E → Good E x.w.1) (hy : ∀ E, SepE E → Good E y.w.1) : Good E (some t :: mk 40 :: (x.w.1 ++ (mk 44 :: (y.w.1 ++ [mk 41])))) :=
  ⟨lx_f (sepC 40 (by decide)) ht, lxMark (by decide), Good.app (hx _ (sepC 44 (by decide))) ⟨lxMark (by decide), Good.app (hy _ (sepC 41 (by decide))) ⟨lxMark (by decide), trivial⟩⟩⟩
theorem good3 {E : List UInt8} {t : Tok} {x y z : D} (ht : t ∈ fT) (hx : ∀ E, SepE E → Good E x.w.1) (hy : ∀ E, SepE E → Good E y.w.1) (hz : ∀ E, SepE E → Good E z.w.1) : Good E (some t :: mk 40 :: (x.w.1 ++ (mk 44 :: (y.w.1 ++ (mk 44 :: (z.w.1 ++ [mk 41])))))) :=
  ⟨lx_f (sepC 40 (by decide)) ht, lxMark (by decide), Good.app (hx _ (sepC 44 (by decide))) ⟨lxMark (by decide), Good.app (hy _ (sepC 44 (by decide))) ⟨lxMark (by decide), Good.app (hz _ (sepC 41 (by decide))) ⟨lxMark (by decide), trivial⟩⟩⟩⟩
theorem goodW : ∀ d : D, d.ok → (∀ E, SepE E → Good E d.w.1) ∧ (∀ E, SepE E → Good E d.w.2) := by
  intro d
  induction d with
  | v n => exact fun h => ⟨fun E hE => ⟨lx_v hE h, trivial⟩, fun E hE => ⟨lxMark (by decide), lx_v hE h, trivial⟩⟩
  | a t => exact fun h => ⟨fun E hE => ⟨lx_a hE h, trivial⟩, fun E hE => ⟨lxMark (by decide), lx_a hE h, trivial⟩⟩
  | q t => exact fun h => ⟨fun E hE => ⟨lxMark (by decide), lx_q (sepC 41 (by decide)) h, lxMark (by decide), trivial⟩, fun E hE => ⟨lxMark (by decide), lxMark (by decide), lx_q (sepC 41 (by decide)) h, lxMark (by decide), trivial⟩⟩
  | e => exact fun h => ⟨fun E hE => ⟨lxMark (by decide), lxMark (by decide), trivial⟩, fun E hE => trivial⟩
  | i t => exact fun h => ⟨fun E hE => ⟨lx_i hE h, trivial⟩, fun E hE => ⟨lxMark (by decide), lx_i hE h, trivial⟩⟩
  | m => exact fun h => ⟨fun E hE => ⟨lx_minus, lx_seven hE, trivial⟩, fun E hE => ⟨lxMark (by decide), lx_minus, lx_seven hE, trivial⟩⟩
  | p x y ihx ihy =>
    intro h
    obtain ⟨hx, _⟩ := ihx h.1
    obtain ⟨_, hy⟩ := ihy h.2
    refine ⟨fun E hE => ⟨lxMark (by decide), Good.app (hx _ ?_) (Good.app (hy _ (sepC 93 (by decide))) ⟨lxMark (by decide), trivial⟩)⟩, fun E hE => ⟨lxMark (by decide), Good.app (hx _ (rb_sepE y hE)) (hy _ hE)⟩⟩
    have : bytes (y.w.2 ++ [mk 93]) ++ E = y.rb ++ (93 :: E) := by
      rw [bytes_app]
      show y.rb ++ [93] ++ E = _
      simp
    rw [this]
    exact rb_sep y E
  | o t x y ihx ihy =>
    intro h
    have g : ∀ E, SepE E → Good E (mk 40 :: (x.w.1 ++ (none :: some t :: none :: (y.w.1 ++ [mk 41])))) := fun E hE => goodO hE h.1 (ihx h.2.1).1 (ihy h.2.2).1
    exact ⟨g, fun E hE => ⟨lxMark (by decide), g E hE⟩⟩
  | f1 t x ihx =>
    intro h
    have g : ∀ E, SepE E → Good E (some t :: mk 40 :: (x.w.1 ++ [mk 41])) := fun E hE => good1 h.1 (ihx h.2).1
    exact ⟨g, fun E hE => ⟨lxMark (by decide), g E hE⟩⟩
  | f2 t x y ihx ihy =>
    intro h
    have g : ∀ E, SepE E → Good E (some t :: mk 40 :: (x.w.1 ++ (mk 44 :: (y.w.1 ++ [mk 41])))) := fun E hE => good2 (gf h.1) (ihx h.2.1).1 (ihy h.2.2).1
    exact ⟨g, fun E hE => ⟨lxMark (by decide), g E hE⟩⟩
  | f3 t x y z ihx ihy ihz =>
    intro h
    have g : ∀ E, SepE E → Good E (some t :: mk 40 :: (x.w.1 ++ (mk 44 :: (y.w.1 ++ (mk 44 :: (z.w.1 ++ [mk 41])))))) := fun E hE => good3 h.1 (ihx h.2.1).1 (ihy h.2.2.1).1 (ihz h.2.2.2).1
    exact ⟨g, fun E hE => ⟨lxMark (by decide), g E hE⟩⟩
def St (L : List GSign) (i : Nat) (d : Int) (N : List ByteArray) : GXr := GXr.mk L (i : Int) false d N
theorem rIs {k : Nat} {L : List GSign} {i : Nat} {s : GSign} {d : Int} {N : List ByteArray} (h : L[i]? = some s) (kd : Int) (tx : ByteArray) :
    pQ_l06Read_is k (St L i d N) kd tx = some (St L i d N, (s.gKind == kd) && (sEq tx (bs []) || sEq s.gText tx)) := by
  have hi : i < L.length := (List.getElem?_eq_some_iff.1 h).1
  have hs : L[i] = s := (List.getElem?_eq_some_iff.1 h).2
  unfold pQ_l06Read_is St
  rw [if_pos (show (!(GXr.mk L (i : Int) false d N).gBad) = true from rfl), if_pos (by simpa using hi), at_lt hi, obs, hs]
  cases c1 : (s.gKind == kd) with
  | false => rw [if_neg (by decide)]; rfl
  | true =>
    rw [if_pos rfl]
    cases c2 : sEq tx (bs []) with
    | true => rw [if_pos rfl]; rfl
    | false => rw [if_neg (by decide), obs]; rfl
theorem rMark {k : Nat} {L : List GSign} {i : Nat} {s : GSign} {d : Int} {N : List ByteArray} (h : L[i]? = some s) (hL : L.length ≤ 3000) (tx : ByteArray) :
    pQ_l06Read_mark k (St L i d N) tx = some (if ((s.gKind == 4) && (sEq tx (bs []) || sEq s.gText tx)) = true then (St L (i + 1) d N, true) else (St L i d N, false)) := by
  have hi : i < L.length := (List.getElem?_eq_some_iff.1 h).1
  unfold pQ_l06Read_mark
  rw [rIs h, obs]
  split
  · rw [show (St L i d N).gAt = (i : Int) from rfl, wsucc (by omega)]; rfl
  · rfl
theorem rWants {k : Nat} {L : List GSign} {i : Nat} {s : GSign} {d : Int} {N : List ByteArray} (h : L[i]? = some s) (hL : L.length ≤ 3000) {tx : ByteArray} (hm : ((s.gKind == 4) && (sEq tx (bs []) || sEq s.gText tx)) = true) :
    pQ_l06Read_wants k (St L i d N) tx = some (St L (i + 1) d N) := by
  unfold pQ_l06Read_wants
  rw [rMark h hL, if_pos hm, obs, if_neg (by show ¬ (false = true); decide)]
def Stop (s : GSign) (most : Int) : Prop := (s.gKind == 1) = false ∧ (((s.gKind == 4) && sEq s.gText (bs [44])) = true → most < 1000)
theorem comma0 : sEq (bs [44]) (bs []) = false := by kernel_rfl
theorem nil0 : sEq (bs []) (bs []) = true := by kernel_rfl
theorem commaOp (k : Nat) : pQ_InfixOf (k + 100) (bs [44]) = some (GOp.mk (bs [44]) 1000 999 1000, true) := by kernel_rfl
theorem rStop {k : Nat} (hk : 100 ≤ k) {L : List GSign} {i : Nat} {s : GSign} {d : Int} {N : List ByteArray} (h : L[i]? = some s) {most : Int} (hs : Stop s most) :
    ∃ w, pQ_l06Read_infix k (St L i d N) = some (St L i d N, w) ∧ (w.2 = false ∨ w.1.gPrio > most) := by
  obtain ⟨n, rfl⟩ : ∃ n, k = n + 100 := ⟨k - 100, by omega⟩
  unfold pQ_l06Read_infix
  rw [rIs h, obs, comma0]
  cases c : ((s.gKind == 4) && sEq s.gText (bs [44])) with
  | true =>
    have c' : ((s.gKind == 4) && (false || sEq s.gText (bs [44]))) = true := by rw [Bool.false_or]; exact c
    rw [if_pos c', commaOp, obs]
    exact ⟨_, rfl, .inr (hs.2 c)⟩
  | false =>
    have c' : ((s.gKind == 4) && (false || sEq s.gText (bs [44]))) = false := by rw [Bool.false_or]; exact c
    rw [if_neg (show ¬ (((s.gKind == 4) && (false || sEq s.gText (bs [44]))) = true) by rw [c']; decide), rIs h, obs, hs.1]
    rw [if_neg (by show ¬ (false = true); decide)]
    unfold pQ_l06Read_infix_J1
    rw [if_neg (by decide)]
    exact ⟨_, rfl, .inl rfl⟩
theorem rL2 {k : Nat} (hk : 100 ≤ k) {A B C D' F G} {L : List GSign} {i : Nat} {s : GSign} {d : Int} {N : List ByteArray} (h : L[i]? = some s) {most : Int} (hs : Stop s most) (m : Nat) (p : Int) (x : GTerm) :
    pQ_l06Read_term_L2 k A B C D' F G most (m + 1) p x (St L i d N) = some (.done (x, St L i d N)) := by
  obtain ⟨w, e, hw⟩ := rStop hk (d := d) (N := N) h hs
  rw [pQ_l06Read_term_L2, if_pos (show (!(St L i d N).gBad) = true from rfl), e, obs]
  rcases hw with hw | hw
  · rw [if_pos (by show (!w.2) = true; rw [hw]; rfl)]
  · split
    · rfl
    · rw [if_pos (by simpa using hw)]
theorem rTerm {k : Nat} (hk : 100 ≤ k) {L : List GSign} {i j : Nat} {s : GSign} {d : Nat} {N N' : List ByteArray} {most : Int} {x : GTerm} (hd : d < 129) (hp : pQ_l06Read_primary k (St L i ((d + 1 : Nat) : Int) N) most = some (St L j ((d + 1 : Nat) : Int) N', x, 0)) (h : L[j]? = some s) (hs : Stop s most) :
    pQ_l06Read_term (k + 1) (St L i (d : Int) N) most = some (St L j (d : Int) N', x) := by
  have w1 : wr.i64 ((d : Int) + 1) = ((d + 1 : Nat) : Int) := wsucc (by omega)
  have w2 : wr.i64 (((d + 1 : Nat) : Int) - 1) = (d : Int) := by rw [wr_i64 (by omega) (by omega)]; omega
  rw [pQ_l06Read_term, if_neg (by show ¬ (false = true); decide)]
  unfold pQ_l06Read_term_J1
  rw [show (St L i (d : Int) N).gDeep = (d : Int) from rfl, w1, if_neg (by simp; omega)]
  rw [show GXr.mk (St L i (d : Int) N).gList (St L i (d : Int) N).gAt (St L i (d : Int) N).gBad ((d + 1 : Nat) : Int) (St L i (d : Int) N).gNames = St L i ((d + 1 : Nat) : Int) N from rfl, hp, obs]
  obtain ⟨m, hm⟩ : ∃ m, k = m + 1 := ⟨k - 1, by omega⟩
  have e := rL2 hk (A := pQ_l06Read_atom k) (B := pQ_l06Read_primary k) (C := pQ_l06Read_round k) (D' := pQ_l06Read_row k) (F := pQ_l06Read_some k) (G := pQ_l06Read_term k) (d := ((d + 1 : Nat) : Int)) (N := N') h hs m 0 x
  rw [← hm] at e
  rw [e]
  simp only [obs]
  rw [show (St L j ((d + 1 : Nat) : Int) N').gDeep = ((d + 1 : Nat) : Int) from rfl, w2]
  rfl
def nm (x : Int) : ByteArray := bs [95, 48 + x.toNat.toUInt8]
def low (S : List Int) : Prop := ∀ x ∈ S, 0 ≤ x ∧ x < 4
theorem nmAll : ((List.range 4).all fun i => !(sEq (nm (i : Int)) (bs [95])) && ((List.range 4).all fun j => sEq (nm (i : Int)) (nm (j : Int)) == ((i : Int) == (j : Int)))) = true := by kernel_rfl
theorem nm_nat {x : Int} (hx : 0 ≤ x ∧ x < 4) : ∃ i : Nat, i ∈ List.range 4 ∧ x = i := ⟨x.toNat, List.mem_range.2 (by omega), by omega⟩
theorem nm_eq {x y : Int} (hx : 0 ≤ x ∧ x < 4) (hy : 0 ≤ y ∧ y < 4) : sEq (nm x) (nm y) = (x == y) := by
  obtain ⟨i, hi, rfl⟩ := nm_nat hx
  obtain ⟨j, hj, rfl⟩ := nm_nat hy
  have h := List.all_eq_true.1 nmAll i hi
  simp only [Bool.and_eq_true] at h
  have h2 := List.all_eq_true.1 h.2 j hj
  simpa only [beq_iff_eq] using h2
theorem nm_ne {x : Int} (hx : 0 ≤ x ∧ x < 4) : sEq (nm x) (bs [95]) = false := by
  obtain ⟨i, hi, rfl⟩ := nm_nat hx
  have h := List.all_eq_true.1 nmAll i hi
  simp only [Bool.and_eq_true, Bool.not_eq_true'] at h
  exact h.1
def add (S : List Int) (n : Int) : List Int := if n ∈ S then S else S ++ [n]
theorem rVar2 {k : Nat} {r : GXr} {S : List Int} {n : Int} (hr : r.gNames = S.map nm) (hn : 0 ≤ n ∧ n < 4) (hS : low S) (hl : S.length ≤ 3000) : ∀ (m j : Nat), j ≤ S.length → S.length - j < m →
    pQ_l06Read_variable_L2 k r (nm n) m (j : Int) = some (if n ∈ S.drop j then .ret (r, .mk 1 (bs []) ((j + (S.drop j).idxOf n : Nat) : Int) []) else .done ())
  | 0, j, h1, h2 => by omega
  | m + 1, j, h1, h2 => by
    rw [pQ_l06Read_variable_L2, hr]
    by_cases hlt : j < S.length
    · have hx := hS _ (List.getElem_mem hlt)
      rw [if_pos (by simpa using hlt), at_lt (by simpa using hlt), obs, List.getElem_map, nm_eq hx hn, List.drop_eq_getElem_cons hlt]
      by_cases e : S[j] = n
      · rw [if_pos (by simpa using e), if_pos (by rw [e]; exact List.mem_cons_self ..)]
        unfold pQ_l03Var
        rw [obs, e, List.idxOf_cons_self]
        rfl
      · rw [if_neg (by simpa using e), wsucc (by omega), rVar2 hr hn hS hl m (j + 1) (by omega) (by omega)]
        have hm : (n ∈ S[j] :: S.drop (j + 1)) ↔ n ∈ S.drop (j + 1) := by
          rw [List.mem_cons]; exact ⟨fun h => h.resolve_left (fun h => e h.symm), .inr⟩
        by_cases c : n ∈ S.drop (j + 1)
        · have e' : (S[j] == n) = false := by simpa using e
          rw [if_pos c, if_pos (hm.2 c), List.idxOf_cons, e', cond_false]
          congr 5
          omega
        · rw [if_neg c, if_neg (fun h => c (hm.1 h))]
    · rw [if_neg (by simpa using hlt), List.drop_of_length_le (by omega)]
      simp
theorem rVar {k : Nat} (hk : 3100 ≤ k) {L : List GSign} {i : Nat} {d : Int} {S : List Int} {n : Int} (hn : 0 ≤ n ∧ n < 4) (hS : low S) (hl : S.length ≤ 3000) :
    pQ_l06Read_variable k (St L i d (S.map nm)) (nm n) = some (St L i d ((add S n).map nm), .mk 1 (bs []) (((add S n).idxOf n : Nat) : Int) []) := by
  unfold pQ_l06Read_variable
  rw [nm_ne hn, if_pos (by decide)]
  have e := rVar2 (k := k) (r := St L i d (S.map nm)) (S := S) rfl hn hS hl k 0 (by omega) (by omega)
  rw [show ((0 : Nat) : Int) = 0 from rfl, List.drop_zero, Nat.zero_add] at e
  rw [e]
  unfold add
  by_cases c : n ∈ S
  · rw [if_pos c, if_pos c]; rfl
  · rw [if_neg c, if_neg c]
    simp only [obs]
    unfold pQ_l06Read_variable_J1 pQ_l03Var
    rw [if_pos (by show (S.map nm).length + _ ≤ _; simp; omega), obs]
    have h1 : (S ++ [n]).idxOf n = S.length := by
      rw [List.idxOf_append, if_neg c, List.idxOf_cons_self, Nat.zero_add]
    rw [h1]
    have h2 : wr.i64 ((((St L i d (S.map nm)).gNames ++ [nm n]).length : Int) - 1) = (S.length : Int) := by
      show wr.i64 (((S.map nm ++ [nm n]).length : Int) - 1) = _
      rw [List.length_append, List.length_map, List.length_singleton, wr_i64 (by omega) (by omega)]
      omega
    rw [h2]
    show some (GXr.mk L (i : Int) false d (S.map nm ++ [nm n]), _) = _
    rw [List.map_append]
    rfl
def rn : D → List Int → D × List Int
  | .v n, S => (.v ((add S n).idxOf (n : Int)), add S n)
  | .p x y, S => (.p (rn x S).1 (rn y (rn x S).2).1, (rn y (rn x S).2).2)
  | .o t x y, S => (.o t (rn x S).1 (rn y (rn x S).2).1, (rn y (rn x S).2).2)
  | .f1 t x, S => (.f1 t (rn x S).1, (rn x S).2)
  | .f2 t x y, S => (.f2 t (rn x S).1 (rn y (rn x S).2).1, (rn y (rn x S).2).2)
  | .f3 t x y z, S => (.f3 t (rn x S).1 (rn y (rn x S).2).1 (rn z (rn y (rn x S).2).2).1, (rn z (rn y (rn x S).2).2).2)
  | d, S => (d, S)
theorem low_add {S : List Int} (h : low S) {n : Int} (hn : 0 ≤ n ∧ n < 4) : low (add S n) := by
  unfold add
  split
  · exact h
  · intro x hx
    rcases List.mem_append.1 hx with hx | hx
    · exact h x hx
    · rw [List.mem_singleton.1 hx]; exact hn
theorem add_len (S : List Int) (n : Int) : (add S n).length ≤ S.length + 1 := by unfold add; split <;> simp
def D.sz : D → Nat
  | .p x y => x.sz + y.sz
  | .o _ x y => x.sz + y.sz
  | .f1 _ x => x.sz
  | .f2 _ x y => x.sz + y.sz
  | .f3 _ x y z => x.sz + (y.sz + z.sz)
  | _ => 1
theorem rn_low : ∀ (d : D) (S : List Int), d.ok → low S → low (rn d S).2 ∧ (rn d S).2.length ≤ S.length + d.sz := by
  intro d
  induction d with
  | v n => intro S h hS; have h : n < 4 := h; exact ⟨low_add hS ⟨by omega, by omega⟩, add_len _ _⟩
  | p x y ihx ihy => intro S h hS; obtain ⟨a1, a2⟩ := ihx S h.1 hS; obtain ⟨b1, b2⟩ := ihy _ h.2 a1; exact ⟨b1, by simp only [rn, D.sz]; omega⟩
  | o t x y ihx ihy => intro S h hS; obtain ⟨a1, a2⟩ := ihx S h.2.1 hS; obtain ⟨b1, b2⟩ := ihy _ h.2.2 a1; exact ⟨b1, by simp only [rn, D.sz]; omega⟩
  | f1 t x ihx => intro S h hS; exact ihx S h.2 hS
  | f2 t x y ihx ihy => intro S h hS; obtain ⟨a1, a2⟩ := ihx S h.2.1 hS; obtain ⟨b1, b2⟩ := ihy _ h.2.2 a1; exact ⟨b1, by simp only [rn, D.sz]; omega⟩
  | f3 t x y z ihx ihy ihz => intro S h hS; obtain ⟨a1, a2⟩ := ihx S h.2.1 hS; obtain ⟨b1, b2⟩ := ihy _ h.2.2.1 a1; obtain ⟨c1, c2⟩ := ihz _ h.2.2.2 b1; exact ⟨c1, by simp only [rn, D.sz]; omega⟩
  | _ => intro S h hS; exact ⟨hS, by simp only [rn]; omega⟩
theorem at0 {L : List GSign} {i : Nat} {s : GSign} {R : List GSign} (h : L.drop i = s :: R) : L[i]? = some s ∧ L.drop (i + 1) = R := by
  constructor
  · have : (L.drop i)[0]? = some s := by rw [h]; rfl
    rwa [List.getElem?_drop, Nat.add_zero] at this
  · rw [← List.drop_drop, h]; rfl
theorem gat {L : List GSign} {i : Nat} {s : GSign} (h : L[i]? = some s) : at' L (i : Int) = some s := by
  obtain ⟨h1, h2⟩ := List.getElem?_eq_some_iff.1 h
  rw [at_lt h1, h2]
theorem rPlain {k : Nat} {L : List GSign} {i : Nat} {s : GSign} {d : Nat} {N : List ByteArray} {most : Int} (hk : 100 ≤ k) (h : L[i]? = some s) (hL : L.length ≤ 3000) (h1 : s.gKind = 1) (hn : s.gNear = false) (hm : sEq s.gText (bs [45]) = false)
    (hp : ∀ k, 100 ≤ k → ∃ r, pQ_PrefixOf k s.gText = some r ∧ r.2 = false) (hi : ∀ k, 100 ≤ k → ∃ r, pQ_InfixOf k s.gText = some r ∧ r.2 = false) :
    pQ_l06Read_primary (k + 2) (St L i (d : Int) N) most = some (St L (i + 1) (d : Int) N, .mk 2 s.gText 0 [], 0) := by
  have hlt : i < L.length := (List.getElem?_eq_some_iff.1 h).1
  obtain ⟨r, hr1, hr2⟩ := hp k hk
  obtain ⟨q, hq1, hq2⟩ := hi k hk
  rw [pQ_l06Read_primary, rIs h, obs, if_pos (show ((s.gKind == 1) && (sEq (bs []) (bs []) || sEq s.gText (bs []))) = true by rw [h1, nil0]; rfl), pQ_l06Read_atom, show at' (St L i (d : Int) N).gList (St L i (d : Int) N).gAt = some s from gat h, obs, if_neg (by rw [hn]; decide), if_neg (by rw [hm]; decide)]
  unfold pQ_l06Read_atom_J1
  rw [if_neg (by decide), hr1, obs, if_neg (by rw [hr2]; decide)]
  unfold pQ_l06Read_atom_J2
  rw [if_neg (by decide), hq1, obs, if_neg (by rw [hr2]; decide), hq2]
  unfold pQ_l06Read_atom_J3 pQ_l03Atom
  rw [if_neg (by decide), obs, show (St L i (d : Int) N).gAt = (i : Int) from rfl, wsucc (by omega)]
  rfl
def off (o : Option (GOp × Bool)) : Bool := match o with | some r => !r.2 | none => false
theorem off_ex {o : Option (GOp × Bool)} (h : off o = true) : ∃ r, o = some r ∧ r.2 = false := by
  cases o with
  | none => cases h
  | some r => exact ⟨r, rfl, by simpa [off] using h⟩
theorem aR (n : Nat) : (aT.all fun t => off (pQ_PrefixOf (n + 100) t.t) && (off (pQ_InfixOf (n + 100) t.t) && (!(sEq t.t (bs [45])) && (t.k == 1)))) = true := by kernel_rfl
theorem aN (t : Tok) (h : t ∈ aT) : (∀ k, 100 ≤ k → ∃ r, pQ_PrefixOf k t.t = some r ∧ r.2 = false) ∧ (∀ k, 100 ≤ k → ∃ r, pQ_InfixOf k t.t = some r ∧ r.2 = false) ∧ sEq t.t (bs [45]) = false ∧ t.k = 1 := by
  have q : ∀ n, off (pQ_PrefixOf (n + 100) t.t) = true ∧ off (pQ_InfixOf (n + 100) t.t) = true ∧ sEq t.t (bs [45]) = false ∧ t.k = 1 := fun n => by
    have := List.all_eq_true.1 (aR n) t h
    simpa only [Bool.and_eq_true, Bool.not_eq_true', beq_iff_eq] using this
  refine ⟨fun k hk => ?_, fun k hk => ?_, (q 0).2.2⟩
  · obtain ⟨n, rfl⟩ : ∃ n, k = n + 100 := ⟨k - 100, by omega⟩
    exact off_ex (q n).1
  · obtain ⟨n, rfl⟩ : ∃ n, k = n + 100 := ⟨k - 100, by omega⟩
    exact off_ex (q n).2.1
theorem wback {i : Nat} (h : i ≤ 3000) : wr.i64 (wr.i64 ((i : Int) + 1) - 1) = (i : Int) := by
  rw [wsucc (by omega), wr_i64 (by omega) (by omega)]; omega
theorem atA {i : Nat} {L : List GSign} {d : Int} {N : List ByteArray} : (St L i d N).gAt = (i : Int) := rfl
theorem liA {i : Nat} {L : List GSign} {d : Int} {N : List ByteArray} : (St L i d N).gList = L := rfl
theorem pRound {k : Nat} {L : List GSign} {i : Nat} {s : GSign} {d : Int} {N : List ByteArray} {most : Int} (h : L[i]? = some s) (hL : L.length ≤ 3000) (h1 : s.gKind = 4) (h2 : s.gText = bs [40]) :
    pQ_l06Read_primary (k + 1) (St L i d N) most = (pQ_l06Read_round k (St L (i + 1) d N)).bind fun t => some (t.1, t.2, 0) := by
  rw [pQ_l06Read_primary, rIs h, obs, if_neg (show ¬ (((s.gKind == 1) && (sEq (bs []) (bs []) || sEq s.gText (bs []))) = true) by rw [h1]; exact Bool.false_ne_true), rMark h hL, if_pos (show ((s.gKind == 4) && (sEq (bs [40]) (bs []) || sEq s.gText (bs [40]))) = true by rw [h1, h2, sEq_refl]; simp), obs, if_pos rfl]
theorem pRow {k : Nat} {L : List GSign} {i : Nat} {s : GSign} {d : Int} {N : List ByteArray} {most : Int} (h : L[i]? = some s) (hL : L.length ≤ 3000) (h1 : s.gKind = 4) (h2 : s.gText = bs [91]) :
    pQ_l06Read_primary (k + 1) (St L i d N) most = (pQ_l06Read_row k (St L (i + 1) d N)).bind fun t => some (t.1, t.2, 0) := by
  have e : ((s.gKind == 4) && (sEq (bs [40]) (bs []) || sEq s.gText (bs [40]))) = false := by rw [h1, h2]; kernel_rfl
  rw [pQ_l06Read_primary, rIs h, obs, if_neg (show ¬ (((s.gKind == 1) && (sEq (bs []) (bs []) || sEq s.gText (bs []))) = true) by rw [h1]; exact Bool.false_ne_true), rMark h hL, if_neg (by rw [e]; decide), obs, if_neg (by show ¬ (false = true); decide),
    rMark h hL, if_pos (show ((s.gKind == 4) && (sEq (bs [91]) (bs []) || sEq s.gText (bs [91]))) = true by rw [h1, h2, sEq_refl]; simp), obs, if_pos rfl]
theorem pOther {k : Nat} {L : List GSign} {i : Nat} {s : GSign} {d : Int} {N : List ByteArray} {most : Int} (h : L[i]? = some s) (hL : L.length ≤ 3000) (h1 : (s.gKind == 1) = false) (h4 : (s.gKind == 4) = false) :
    pQ_l06Read_primary (k + 1) (St L i d N) most = if (s.gKind == 3) = true then some (St L (i + 1) d N, .mk 3 (bs []) s.gNum [], 0) else if (s.gKind == 2) = true then (pQ_l06Read_variable k (St L (i + 1) d N) s.gText).bind fun t => some (t.1, t.2, 0) else some (GXr.mk L (i : Int) true d N, GTerm.mk 0 (bs []) 0 [], 0) := by
  have hi : i < L.length := (List.getElem?_eq_some_iff.1 h).1
  have e : ∀ x, ((s.gKind == 4) && (sEq x (bs []) || sEq s.gText x)) = false := fun x => by rw [h4]; rfl
  rw [pQ_l06Read_primary, rIs h, obs, if_neg (show ¬ (((s.gKind == 1) && (sEq (bs []) (bs []) || sEq s.gText (bs []))) = true) by rw [h1]; exact Bool.false_ne_true), rMark h hL, if_neg (by rw [e]; decide), obs, if_neg (by show ¬ (false = true); decide),
    rMark h hL, if_neg (by rw [e]; decide), obs, if_neg (by show ¬ (false = true); decide), rIs h, obs, nil0, Bool.true_or, Bool.and_true]
  cases c3 : (s.gKind == 3) with
  | true =>
    rw [if_pos rfl, if_pos rfl, atA, wback (by omega), liA, gat h, obs, wsucc (by omega)]
    rfl
  | false =>
    rw [if_neg Bool.false_ne_true, if_neg Bool.false_ne_true, rIs h, obs, nil0, Bool.true_or, Bool.and_true]
    cases c2 : (s.gKind == 2) with
    | true =>
      rw [if_pos rfl, if_pos rfl, atA, wback (by omega), liA, gat h, obs, wsucc (by omega)]
      rfl
    | false =>
      rw [if_neg Bool.false_ne_true, if_neg Bool.false_ne_true]
      rfl
def Prim (d : D) : Prop := ∀ (k : Nat) (L : List GSign) (i n : Nat) (E : List UInt8) (R : List GSign) (dd : Nat) (S : List Int) (most : Int), 3200 + 10 * d.dep ≤ k → L.drop i = sgs E n d.w.1 ++ R → nearB E = false → L.length ≤ 3000 → dd + 2 * d.dep ≤ 120 → low S → S.length + d.sz ≤ 2900 → n + d.b.length ≤ 100000 →
  ∃ j, L.drop j = R ∧ pQ_l06Read_primary k (St L i (dd : Int) (S.map nm)) most = some (St L j (dd : Int) ((rn d S).2.map nm), (rn d S).1.g, 0)
theorem iK {t : Tok} (h : t ∈ iT) : t.k = 3 := by
  simp only [iT, List.mem_cons, List.not_mem_nil, or_false] at h
  rcases h with rfl | rfl | rfl <;> rfl
theorem qK {t : Tok} (h : t ∈ qT) : t.k = 1 := by
  simp only [qT, List.mem_cons, List.not_mem_nil, or_false] at h
  rcases h with rfl | rfl <;> rfl
theorem prim_v {n : Nat} (hn : n < 4) : Prim (.v n) := by
  intro k L i p E R dd S most hk hL hE hlen hdd hS hsz hpos
  obtain ⟨k, rfl⟩ : ∃ j, k = j + 1 := ⟨k - 1, by omega⟩
  obtain ⟨h1, h2⟩ := at0 (s := GSign.mk 2 (bs [95, 48 + n.toUInt8]) 0 p (nearB (bytes [] ++ E))) (R := R) hL
  have hs : S.length + 1 ≤ 2900 := hsz
  refine ⟨i + 1, h2, ?_⟩
  rw [pOther h1 hlen rfl rfl, if_neg (by show ¬ ((false : Bool) = true); exact Bool.false_ne_true), if_pos (show ((2 : Int) == 2) = true from rfl)]
  have e := rVar (k := k) (by omega) (L := L) (i := i + 1) (d := (dd : Int)) (S := S) (n := (n : Int)) ⟨by omega, by omega⟩ hS (by omega)
  show (pQ_l06Read_variable k (St L (i + 1) (dd : Int) (S.map nm)) (nm (n : Int))).bind _ = _
  rw [e]
  rfl
theorem prim_i {t : Tok} (ht : t ∈ iT) : Prim (.i t) := by
  intro k L i p E R dd S most hk hL hE hlen hdd hS hsz hpos
  obtain ⟨k, rfl⟩ : ∃ j, k = j + 1 := ⟨k - 1, by omega⟩
  obtain ⟨h1, h2⟩ := at0 (s := GSign.mk t.k t.t t.n p (nearB (bytes [] ++ E))) (R := R) hL
  refine ⟨i + 1, h2, ?_⟩
  have hk := iK ht
  rw [pOther h1 hlen (by show (t.k == 1) = false; rw [hk]; rfl) (by show (t.k == 4) = false; rw [hk]; rfl), if_pos (by show (t.k == 3) = true; rw [hk]; rfl)]
  rfl
theorem prim_a {t : Tok} (ht : t ∈ aT) : Prim (.a t) := by
  intro k L i p E R dd S most hk hL hE hlen hdd hS hsz hpos
  obtain ⟨k, rfl⟩ : ∃ j, k = j + 2 := ⟨k - 2, by omega⟩
  obtain ⟨h1, h2⟩ := at0 (s := GSign.mk t.k t.t t.n p (nearB (bytes [] ++ E))) (R := R) hL
  refine ⟨i + 1, h2, ?_⟩
  obtain ⟨f1, f2, f3, f4⟩ := aN t ht
  exact rPlain (by omega) h1 hlen f4 hE f3 f1 f2
theorem prim_q {t : Tok} (ht : t ∈ qT) : Prim (.q t) := by
  intro k L i p E R dd S most hk hL hE hlen hdd hS hsz hpos
  obtain ⟨k, rfl⟩ : ∃ j, k = j + 2 := ⟨k - 2, by omega⟩
  obtain ⟨h1, h2⟩ := at0 (s := GSign.mk 4 (bs [40]) 0 p (nearB (bytes [some t, mk 41] ++ E))) hL
  obtain ⟨h3, h4⟩ := at0 (s := GSign.mk t.k t.t t.n _ (nearB (bytes [mk 41] ++ E))) h2
  obtain ⟨h5, h6⟩ := at0 (s := GSign.mk 4 (bs [41]) 0 _ (nearB (bytes [] ++ E))) h4
  have hi : i + 1 + 1 < L.length := (List.getElem?_eq_some_iff.1 h5).1
  refine ⟨i + 1 + 1 + 1, h6, ?_⟩
  have hk := qK ht
  have w2 : wr.i64 (((i + 1 : Nat) : Int) + 2) = ((i + 1 + 1 + 1 : Nat) : Int) := by rw [wr_i64 (by omega) (by omega)]; omega
  have w3 : wr.i64 (((i + 1 + 1 + 1 : Nat) : Int) - 2) = ((i + 1 : Nat) : Int) := by rw [wr_i64 (by omega) (by omega)]; omega
  rw [pRound h1 hlen rfl rfl, pQ_l06Read_round, rIs h3, obs, if_pos (show ((t.k == 1) && (sEq (bs []) (bs []) || sEq t.t (bs []))) = true by rw [hk, nil0]; rfl), atA, wsucc (by omega), liA, if_pos (by simp; omega), gat h5, obs, if_pos (show ((4 : Int) == 4) = true from rfl), obs]
  unfold pQ_l06Read_round_J1 pQ_l03Atom
  rw [if_pos (sEq_refl _), atA, w2, w3, liA, gat h3, obs, obs]
  rfl
theorem prim_e : Prim .e := by
  intro k L i p E R dd S most hk hL hE hlen hdd hS hsz hpos
  obtain ⟨k, rfl⟩ : ∃ j, k = j + 2 := ⟨k - 2, by omega⟩
  obtain ⟨h1, h2⟩ := at0 (s := GSign.mk 4 (bs [91]) 0 p (nearB (bytes [mk 93] ++ E))) hL
  obtain ⟨h3, h4⟩ := at0 (s := GSign.mk 4 (bs [93]) 0 _ (nearB (bytes [] ++ E))) h2
  refine ⟨i + 1 + 1, h4, ?_⟩
  rw [pRow h1 hlen rfl rfl, pQ_l06Read_row, rMark h3 hlen, if_pos (show (((4 : Int) == 4) && (sEq (bs [93]) (bs []) || sEq (bs [93]) (bs [93]))) = true by rw [sEq_refl]; simp), obs, if_pos rfl]
  rfl
theorem minusSelf : sEq (bs [45]) (bs [45]) = true := by kernel_rfl
theorem prim_m : Prim .m := by
  intro k L i p E R dd S most hk hL hE hlen hdd hS hsz hpos
  obtain ⟨k, rfl⟩ : ∃ j, k = j + 2 := ⟨k - 2, by omega⟩
  obtain ⟨h1, h2⟩ := at0 (s := GSign.mk 1 (bs [45]) 0 p (nearB (bytes [some seven] ++ E))) hL
  obtain ⟨h3, h4⟩ := at0 (s := GSign.mk 3 (bs []) 7 ((p + 1 : Nat) : Int) (nearB (bytes [] ++ E))) h2
  have hi : i + 1 < L.length := (List.getElem?_eq_some_iff.1 h3).1
  refine ⟨i + 1 + 1, h4, ?_⟩
  have w2 : wr.i64 ((i : Int) + 2) = ((i + 1 + 1 : Nat) : Int) := by rw [wr_i64 (by omega) (by omega)]; omega
  have w3 : wr.i64 (((i + 1 + 1 : Nat) : Int) - 1) = ((i + 1 : Nat) : Int) := by rw [wr_i64 (by omega) (by omega)]; omega
  rw [pQ_l06Read_primary, rIs h1, obs, if_pos (show (((1 : Int) == 1) && (sEq (bs []) (bs []) || sEq (bs [45]) (bs []))) = true by rw [nil0]; rfl), pQ_l06Read_atom, atA, liA, gat h1, obs,
    if_neg (show ¬ (nearB (bytes [some seven] ++ E) = true) from Bool.false_ne_true), if_pos (show sEq (bs [45]) (bs [45]) = true from minusSelf)]
  unfold pQ_l06Read_near
  rw [atA, wsucc (by omega), liA, if_pos (by simp; omega), gat h3, obs, if_pos (show ((3 : Int) == 3) = true from rfl), obs, gat h1, obs]
  have hp1 : p + 2 ≤ 100000 := hpos
  unfold pQ_l06Read_atom_J1 pQ_l03Num
  rw [obs, if_pos (show ((((p + 1 : Nat) : Int)) == wr.i64 ((p : Int) + 1)) = true by rw [wr_i64 (by omega) (by omega)]; simp), atA, w2, w3, liA, gat h3, obs, obs]
  rfl
theorem term_of {d : D} (h : Prim d) {k : Nat} {L : List GSign} {i n : Nat} {E : List UInt8} {s : GSign} {R : List GSign} {dd : Nat} {S : List Int} {most : Int} (hk : 3200 + 10 * d.dep < k) (hL : L.drop i = sgs E n d.w.1 ++ s :: R) (hE : nearB E = false) (hlen : L.length ≤ 3000) (hdd : dd + 2 * d.dep ≤ 119) (hS : low S) (hsz : S.length + d.sz ≤ 2900) (hp : n + d.b.length ≤ 100000) (hs : Stop s most) :
    ∃ j, L.drop j = s :: R ∧ pQ_l06Read_term k (St L i (dd : Int) (S.map nm)) most = some (St L j (dd : Int) ((rn d S).2.map nm), (rn d S).1.g) := by
  obtain ⟨k, rfl⟩ : ∃ j, k = j + 1 := ⟨k - 1, by omega⟩
  obtain ⟨j, h1, h2⟩ := h k L i n E (s :: R) (dd + 1) S most (by omega) hL hE hlen (by omega) hS hsz hp
  exact ⟨j, h1, rTerm (by omega) (by omega) h2 (at0 h1).1 hs⟩
theorem stopMark {c : UInt8} {n : Int} {p : Int} {g : Bool} {most : Int} (h : most < 1000 ∨ sEq (bs [c]) (bs [44]) = false) : Stop (GSign.mk 4 (bs [c]) n p g) most := by
  refine ⟨rfl, fun e => ?_⟩
  rcases h with h | h
  · exact h
  · have e : (((4 : Int) == 4) && sEq (bs [c]) (bs [44])) = true := e
    rw [h] at e
    cases e
theorem pSome {k : Nat} {L : List GSign} {i : Nat} {s : GSign} {d : Int} {N : List ByteArray} {most : Int} (h : L[i]? = some s) (hL : L.length ≤ 3000) (h1 : s.gKind = 1) (h2 : s.gNear = true) :
    pQ_l06Read_primary (k + 2) (St L i d N) most = (pQ_l06Read_some k (St L (i + 2) d N) s.gText).bind fun t => some (t.1, t.2, 0) := by
  have hi : i < L.length := (List.getElem?_eq_some_iff.1 h).1
  have w2 : wr.i64 ((i : Int) + 2) = ((i + 2 : Nat) : Int) := by rw [wr_i64 (by omega) (by omega)]; omega
  rw [pQ_l06Read_primary, rIs h, obs, if_pos (show ((s.gKind == 1) && (sEq (bs []) (bs []) || sEq s.gText (bs []))) = true by rw [h1, nil0]; rfl), pQ_l06Read_atom, atA, liA, gat h, obs, if_pos h2, w2]
  show Option.bind (Option.bind (pQ_l06Read_some k (St L (i + 2) d N) s.gText) _) _ = _
  cases pQ_l06Read_some k (St L (i + 2) d N) s.gText <;> rfl
theorem mk41 : ∀ {s : GSign}, s.gKind = 4 → s.gText = bs [41] → ((s.gKind == 4) && (sEq (bs [41]) (bs []) || sEq s.gText (bs [41]))) = true := fun h1 h2 => by rw [h1, h2, sEq_refl]; simp
theorem someLast {k m : Nat} {L : List GSign} {i j : Nat} {d : Int} {N N' : List ByteArray} {g b : GTerm} {s : GSign} (hlen : L.length ≤ 3000) (ht : pQ_l06Read_term k (St L i d N) 999 = some (St L j d N', g)) (hj : L[j]? = some s) (h4 : s.gKind = 4) (h41 : s.gText = bs [41]) (hb : b.gKids.length ≤ 4) :
    pQ_l06Read_some_L1 k (pQ_l06Read_atom k) (pQ_l06Read_primary k) (pQ_l06Read_round k) (pQ_l06Read_row k) (pQ_l06Read_some k) (pQ_l06Read_term k) (m + 1) b (St L i d N) = some (.done (GTerm.mk b.gKind b.gName b.gNum (b.gKids ++ [g]), St L (j + 1) d N')) := by
  rw [pQ_l06Read_some_L1, if_pos (show (!(St L i d N).gBad) = true from rfl), ht, obs, if_neg (by simp; omega), if_pos (by rw [List.length_singleton]; omega), rMark hj hlen, if_pos (mk41 h4 h41), obs, if_pos rfl]
theorem someNext {k m : Nat} {L : List GSign} {i j : Nat} {d : Int} {N N' : List ByteArray} {g b : GTerm} {s : GSign} (hlen : L.length ≤ 3000) (ht : pQ_l06Read_term k (St L i d N) 999 = some (St L j d N', g)) (hj : L[j]? = some s) (h4 : s.gKind = 4) (h44 : s.gText = bs [44]) (hb : b.gKids.length ≤ 4) :
    pQ_l06Read_some_L1 k (pQ_l06Read_atom k) (pQ_l06Read_primary k) (pQ_l06Read_round k) (pQ_l06Read_row k) (pQ_l06Read_some k) (pQ_l06Read_term k) (m + 1) b (St L i d N) = pQ_l06Read_some_L1 k (pQ_l06Read_atom k) (pQ_l06Read_primary k) (pQ_l06Read_round k) (pQ_l06Read_row k) (pQ_l06Read_some k) (pQ_l06Read_term k) m (GTerm.mk b.gKind b.gName b.gNum (b.gKids ++ [g])) (St L (j + 1) d N') := by
  have e : ((s.gKind == 4) && (sEq (bs [41]) (bs []) || sEq s.gText (bs [41]))) = false := by rw [h4, h44]; kernel_rfl
  rw [pQ_l06Read_some_L1, if_pos (show (!(St L i d N).gBad) = true from rfl), ht, obs, if_neg (by simp; omega), if_pos (by rw [List.length_singleton]; omega), rMark hj hlen, if_neg (by rw [e]; exact Bool.false_ne_true), obs, if_neg Bool.false_ne_true,
    rWants hj hlen (tx := bs [44]) (by rw [h4, h44, sEq_refl]; simp), obs]
theorem nearMk {c : UInt8} {r : List (Option Tok)} {E : List UInt8} (h : ((c.toNat : Int) == 40) = false) : nearB (bytes (mk c :: r) ++ E) = false := h
theorem w_f1 (t : Tok) (x : D) : (D.f1 t x).w.1 = some t :: mk 40 :: (x.w.1 ++ [mk 41]) := by rw [D.w]
theorem w_f2 (t : Tok) (x y : D) : (D.f2 t x y).w.1 = some t :: mk 40 :: (x.w.1 ++ (mk 44 :: (y.w.1 ++ [mk 41]))) := by rw [D.w]
theorem w_f3 (t : Tok) (x y z : D) : (D.f3 t x y z).w.1 = some t :: mk 40 :: (x.w.1 ++ (mk 44 :: (y.w.1 ++ (mk 44 :: (z.w.1 ++ [mk 41]))))) := by rw [D.w]
theorem w_o (t : Tok) (x y : D) : (D.o t x y).w.1 = mk 40 :: (x.w.1 ++ (none :: some t :: none :: (y.w.1 ++ [mk 41]))) := by rw [D.w]
theorem w_p (x y : D) : (D.p x y).w.1 = mk 91 :: (x.w.1 ++ (y.w.2 ++ [mk 93])) := by rw [D.w]
theorem fK {t : Tok} (h : t ∈ fT) : t.k = 1 := by
  simp only [fT, List.mem_cons, List.not_mem_nil, or_false] at h
  rcases h with rfl | rfl | rfl | rfl <;> rfl
theorem argOf {d : D} (h : Prim d) {k : Nat} {L : List GSign} {i n : Nat} {E : List UInt8} {c : UInt8} {r : List (Option Tok)} {R : List GSign} {dd : Nat} {S : List Int} {most : Int} (hk : 3200 + 10 * d.dep < k) (hL : L.drop i = sgs E n (d.w.1 ++ mk c :: r) ++ R) (hc : ((c.toNat : Int) == 40) = false) (hlen : L.length ≤ 3000) (hdd : dd + 2 * d.dep ≤ 119) (hS : low S) (hsz : S.length + d.sz ≤ 2900) (hp : n + d.b.length ≤ 100000) (hs : most < 1000 ∨ sEq (bs [c]) (bs [44]) = false) :
    ∃ j s, L[j]? = some s ∧ s.gKind = 4 ∧ s.gText = bs [c] ∧ L.drop (j + 1) = sgs E (n + d.b.length + 1) r ++ R ∧ pQ_l06Read_term k (St L i (dd : Int) (S.map nm)) most = some (St L j (dd : Int) ((rn d S).2.map nm), (rn d S).1.g) := by
  have e : sgs E n (d.w.1 ++ mk c :: r) ++ R = sgs (bytes (mk c :: r) ++ E) n d.w.1 ++ (GSign.mk 4 (bs [c]) 0 ((n + d.b.length : Nat) : Int) (nearB (bytes r ++ E)) :: (sgs E (n + d.b.length + 1) r ++ R)) := by
    rw [sgs_app, List.append_assoc]; rfl
  rw [e] at hL
  obtain ⟨j, h1, h2⟩ := term_of h hk hL (nearMk hc) hlen hdd hS hsz hp (stopMark hs)
  obtain ⟨h3, h4⟩ := at0 h1
  exact ⟨j, _, h3, rfl, rfl, h4, h2⟩
theorem prim_f1 {t : Tok} {x : D} (ht : t ∈ fT) (hx : Prim x) : Prim (.f1 t x) := by
  intro k L i p E R dd S most hk hL hE hlen hdd hS hsz hpos
  have e1 : (D.f1 t x).dep = 1 + x.dep := rfl
  have e2 : (D.f1 t x).sz = x.sz := rfl
  have e3 := congrArg List.length (b_f1 t x)
  simp only [List.length_append, List.length_cons, List.length_nil] at e3
  obtain ⟨k, rfl⟩ : ∃ j, k = j + 4 := ⟨k - 4, by omega⟩
  rw [w_f1] at hL
  obtain ⟨h1, h2⟩ := at0 (s := GSign.mk t.k t.t t.n p true) (R := sgs E (p + t.b.length) (mk 40 :: (x.w.1 ++ [mk 41])) ++ R) hL
  obtain ⟨h3, h4⟩ := at0 (s := GSign.mk 4 (bs [40]) 0 _ (nearB (bytes (x.w.1 ++ [mk 41]) ++ E))) (R := sgs E (p + t.b.length + 1) (x.w.1 ++ [mk 41]) ++ R) h2
  obtain ⟨j, s, a1, a2, a3, a4, a5⟩ := argOf hx (k := k + 1) (by omega) h4 (by decide) hlen (dd := dd) (by omega) hS (by omega) (by omega) (most := 999) (.inl (by omega))
  refine ⟨j + 1, a4, ?_⟩
  rw [pSome h1 hlen (fK ht) rfl, pQ_l06Read_some, someLast hlen a5 a1 a2 a3 (Nat.le_of_ble_eq_true rfl)]
  rfl
theorem prim_f2 {t : Tok} {x y : D} (ht : t ∈ fT) (hx : Prim x) (hy : Prim y) (okx : x.ok) : Prim (.f2 t x y) := by
  intro k L i p E R dd S most hk hL hE hlen hdd hS hsz hpos
  have e1 : (D.f2 t x y).dep = 1 + max x.dep y.dep := rfl
  have e2 : (D.f2 t x y).sz = x.sz + y.sz := rfl
  have e3 := congrArg List.length (b_f2 t x y)
  simp only [List.length_append, List.length_cons, List.length_nil] at e3
  obtain ⟨k, rfl⟩ : ∃ j, k = j + 5 := ⟨k - 5, by omega⟩
  rw [w_f2] at hL
  obtain ⟨h1, h2⟩ := at0 (s := GSign.mk t.k t.t t.n p true) (R := sgs E (p + t.b.length) (mk 40 :: (x.w.1 ++ (mk 44 :: (y.w.1 ++ [mk 41])))) ++ R) hL
  obtain ⟨h3, h4⟩ := at0 (s := GSign.mk 4 (bs [40]) 0 _ (nearB (bytes (x.w.1 ++ (mk 44 :: (y.w.1 ++ [mk 41]))) ++ E))) (R := sgs E (p + t.b.length + 1) (x.w.1 ++ (mk 44 :: (y.w.1 ++ [mk 41]))) ++ R) h2
  obtain ⟨lo, ln⟩ := rn_low x S okx hS
  obtain ⟨j, s, a1, a2, a3, a4, a5⟩ := argOf hx (k := k + 2) (by omega) h4 (by decide) hlen (dd := dd) (by omega) hS (by omega) (by omega) (most := 999) (.inl (by omega))
  obtain ⟨j2, s2, c1, c2, c3, c4, c5⟩ := argOf hy (k := k + 2) (by omega) a4 (by decide) hlen (dd := dd) (by omega) lo (by omega) (by omega) (most := 999) (.inl (by omega))
  refine ⟨j2 + 1, c4, ?_⟩
  rw [pSome h1 hlen (fK ht) rfl, pQ_l06Read_some, someNext hlen a5 a1 a2 a3 (Nat.le_of_ble_eq_true rfl), someLast hlen c5 c1 c2 c3 (Nat.le_of_ble_eq_true rfl)]
  rfl
theorem prim_f3 {t : Tok} {x y z : D} (ht : t ∈ fT) (hx : Prim x) (hy : Prim y) (hz : Prim z) (okx : x.ok) (oky : y.ok) : Prim (.f3 t x y z) := by
  intro k L i p E R dd S most hk hL hE hlen hdd hS hsz hpos
  have e1 : (D.f3 t x y z).dep = 1 + max x.dep (max y.dep z.dep) := rfl
  have e2 : (D.f3 t x y z).sz = x.sz + (y.sz + z.sz) := rfl
  have e3 := congrArg List.length (b_f3 t x y z)
  simp only [List.length_append, List.length_cons, List.length_nil] at e3
  obtain ⟨k, rfl⟩ : ∃ j, k = j + 6 := ⟨k - 6, by omega⟩
  rw [w_f3] at hL
  obtain ⟨h1, h2⟩ := at0 (s := GSign.mk t.k t.t t.n p true) (R := sgs E (p + t.b.length) (mk 40 :: (x.w.1 ++ (mk 44 :: (y.w.1 ++ (mk 44 :: (z.w.1 ++ [mk 41])))))) ++ R) hL
  obtain ⟨h3, h4⟩ := at0 (s := GSign.mk 4 (bs [40]) 0 _ (nearB (bytes (x.w.1 ++ (mk 44 :: (y.w.1 ++ (mk 44 :: (z.w.1 ++ [mk 41]))))) ++ E))) (R := sgs E (p + t.b.length + 1) (x.w.1 ++ (mk 44 :: (y.w.1 ++ (mk 44 :: (z.w.1 ++ [mk 41]))))) ++ R) h2
  obtain ⟨lo, ln⟩ := rn_low x S okx hS
  obtain ⟨lo2, ln2⟩ := rn_low y _ oky lo
  obtain ⟨j, s, a1, a2, a3, a4, a5⟩ := argOf hx (k := k + 3) (by omega) h4 (by decide) hlen (dd := dd) (by omega) hS (by omega) (by omega) (most := 999) (.inl (by omega))
  obtain ⟨j2, s2, c1, c2, c3, c4, c5⟩ := argOf hy (k := k + 3) (by omega) a4 (by decide) hlen (dd := dd) (by omega) lo (by omega) (by omega) (most := 999) (.inl (by omega))
  obtain ⟨j3, s3, f1, f2, f3, f4, f5⟩ := argOf hz (k := k + 3) (by omega) c4 (by decide) hlen (dd := dd) (by omega) lo2 (by omega) (by omega) (most := 999) (.inl (by omega))
  refine ⟨j3 + 1, f4, ?_⟩
  rw [pSome h1 hlen (fK ht) rfl, pQ_l06Read_some, someNext hlen a5 a1 a2 a3 (Nat.le_of_ble_eq_true rfl), someNext hlen c5 c1 c2 c3 (Nat.le_of_ble_eq_true rfl), someLast hlen f5 f1 f2 f3 (Nat.le_of_ble_eq_true rfl)]
  rfl
def opOk (o : Option (GOp × Bool)) (b : ByteArray) : Bool := match o with | some r => r.2 && (sEq r.1.gName b && (decide (r.1.gPrio ≤ 1200) && decide (0 ≤ r.1.gLeft))) | none => false
theorem opOk_ex {o : Option (GOp × Bool)} {b : ByteArray} (h : opOk o b = true) : ∃ r, o = some (r, true) ∧ r.gName = b ∧ r.gPrio ≤ 1200 ∧ 0 ≤ r.gLeft := by
  cases o with
  | none => cases h
  | some r =>
    obtain ⟨r, g⟩ := r
    simp only [opOk, Bool.and_eq_true, decide_eq_true_eq] at h
    obtain ⟨h1, h2, h3, h4⟩ := h
    subst h1
    exact ⟨r, rfl, sEq_iff.1 h2, h3, h4⟩
theorem oR (n : Nat) : (oT.all fun t => opOk (pQ_InfixOf (n + 100) t.t) t.t && ((t.k == 1 || (t.k == 4 && sEq t.t (bs [44]))) && !(sEq t.t (bs [41])))) = true := by kernel_rfl
theorem oN {t : Tok} (h : t ∈ oT) : (∀ k, 100 ≤ k → ∃ r, pQ_InfixOf k t.t = some (r, true) ∧ r.gName = t.t ∧ r.gPrio ≤ 1200 ∧ 0 ≤ r.gLeft) ∧ (t.k = 1 ∨ (t.k = 4 ∧ t.t = bs [44])) ∧ sEq t.t (bs [41]) = false := by
  have q : ∀ n, opOk (pQ_InfixOf (n + 100) t.t) t.t = true ∧ (t.k = 1 ∨ (t.k = 4 ∧ sEq t.t (bs [44]) = true)) ∧ sEq t.t (bs [41]) = false := fun n => by
    have := List.all_eq_true.1 (oR n) t h
    simpa only [Bool.and_eq_true, Bool.not_eq_true', beq_iff_eq, Bool.or_eq_true] using this
  refine ⟨fun k hk => ?_, ?_, (q 0).2.2⟩
  · obtain ⟨n, rfl⟩ : ∃ n, k = n + 100 := ⟨k - 100, by omega⟩
    exact opOk_ex (q n).1
  · rcases (q 0).2.1 with h | ⟨h1, h2⟩
    · exact .inl h
    · exact .inr ⟨h1, sEq_iff.1 h2⟩
theorem rInfix {k : Nat} (hk : 100 ≤ k) {L : List GSign} {i : Nat} {s : GSign} {d : Int} {N : List ByteArray} (h : L[i]? = some s) {t : Tok} (ht : t ∈ oT) (h1 : s.gKind = t.k) (h2 : s.gText = t.t) (hn : s.gNear = false) :
    ∃ r, pQ_l06Read_infix k (St L i d N) = some (St L i d N, r, true) ∧ r.gName = t.t ∧ r.gPrio ≤ 1200 ∧ 0 ≤ r.gLeft := by
  obtain ⟨g, gk, _⟩ := oN ht
  obtain ⟨r, r1, r2⟩ := g k hk
  refine ⟨r, ?_, r2⟩
  unfold pQ_l06Read_infix
  rw [rIs h, obs, comma0]
  rcases gk with gk | ⟨gk, gt⟩
  · rw [if_neg (show ¬ (((s.gKind == 4) && (false || sEq s.gText (bs [44]))) = true) by rw [h1, gk]; exact Bool.false_ne_true), rIs h, obs, if_pos (show ((s.gKind == 1) && (sEq (bs []) (bs []) || sEq s.gText (bs []))) = true by rw [h1, gk, nil0]; rfl), liA, atA, gat h, obs]
    unfold pQ_l06Read_infix_J1
    rw [if_pos (by rw [hn]; rfl), liA, atA, gat h, obs, h2, r1, obs]
  · rw [if_pos (show ((s.gKind == 4) && (false || sEq s.gText (bs [44]))) = true by rw [h1, gk, h2, gt, sEq_refl]; rfl)]
    rw [gt] at r1
    rw [r1, obs]
theorem headTok {d : D} (h : d.ok) : ∃ t r, d.w.1 = some t :: r ∧ ((t.k == 4) && sEq t.t (bs [93])) = false ∧ (t.k = 1 → r = [] ∨ ∃ t2 r2, r = some t2 :: r2 ∧ ((t2.k == 4) && sEq t2.t (bs [41])) = false) := by
  have c40 : (((4 : Int) == 4) && sEq (bs [40]) (bs [93])) = false := by kernel_rfl
  have c91 : (((4 : Int) == 4) && sEq (bs [91]) (bs [93])) = false := by kernel_rfl
  have d40 : (((4 : Int) == 4) && sEq (bs [40]) (bs [41])) = false := by kernel_rfl
  cases d with
  | v n => exact ⟨vT n, [], rfl, rfl, fun h => by cases h⟩
  | a t => exact ⟨t, [], rfl, by rw [(aN t h).2.2.2]; rfl, fun _ => .inl rfl⟩
  | q t => exact ⟨_, _, rfl, c40, fun h => by cases h⟩
  | e => exact ⟨_, _, rfl, c91, fun h => by cases h⟩
  | i t => exact ⟨t, [], rfl, by rw [iK h]; rfl, fun h' => by rw [iK h] at h'; cases h'⟩
  | m => exact ⟨minus, [some seven], rfl, rfl, fun _ => .inr ⟨seven, [], rfl, rfl⟩⟩
  | p x y => exact ⟨_, _, w_p x y, c91, fun h => by cases h⟩
  | o t x y => exact ⟨_, _, w_o t x y, c40, fun h => by cases h⟩
  | f1 t x => exact ⟨_, _, w_f1 t x, by rw [fK h.1]; rfl, fun _ => .inr ⟨_, _, rfl, d40⟩⟩
  | f2 t x y => exact ⟨_, _, w_f2 t x y, by rw [fK (gf h.1)]; rfl, fun _ => .inr ⟨_, _, rfl, d40⟩⟩
  | f3 t x y z => exact ⟨_, _, w_f3 t x y z, by rw [fK h.1]; rfl, fun _ => .inr ⟨_, _, rfl, d40⟩⟩
theorem rRound {k : Nat} {L : List GSign} {i n : Nat} {E : List UInt8} {d : D} {t : Tok} {r : List (Option Tok)} {R : List GSign} {dd : Int} {N : List ByteArray} (hok : d.ok) (ht : t ∈ oT) (hL : L.drop i = sgs E n (d.w.1 ++ none :: some t :: r) ++ R) (hlen : L.length ≤ 3000) :
    pQ_l06Read_round (k + 1) (St L i dd N) = (pQ_l06Read_term k (St L i dd N) 1200).bind fun t => (pQ_l06Read_wants k t.1 (bs [41])).bind fun r => some (r, t.2) := by
  obtain ⟨t1, r1, e, _, he⟩ := headTok hok
  obtain ⟨_, gk, g41⟩ := oN ht
  have no41 : ((t.k == 4) && sEq t.t (bs [41])) = false := by rw [g41]; simp
  rw [e, List.cons_append] at hL
  obtain ⟨h1, h2⟩ := at0 (s := GSign.mk t1.k t1.t t1.n n (nearB (bytes (r1 ++ none :: some t :: r) ++ E))) (R := sgs E (n + t1.b.length) (r1 ++ none :: some t :: r) ++ R) hL
  rw [pQ_l06Read_round, rIs h1, obs, nil0, Bool.true_or, Bool.and_true]
  have J : pQ_l06Read_round_J1 k (pQ_l06Read_atom k) (pQ_l06Read_primary k) (pQ_l06Read_round k) (pQ_l06Read_row k) (pQ_l06Read_some k) (pQ_l06Read_term k) false (St L i dd N) = (pQ_l06Read_term k (St L i dd N) 1200).bind fun t => (pQ_l06Read_wants k t.1 (bs [41])).bind fun r => some (r, t.2) := by
    unfold pQ_l06Read_round_J1
    rw [if_neg Bool.false_ne_true]
  cases c : (t1.k == 1) with
  | false =>
    rw [if_neg Bool.false_ne_true]
    exact J
  | true =>
    rw [if_pos (show true = true from rfl), atA, wsucc (by have := (List.getElem?_eq_some_iff.1 h1).1; omega), liA]
    obtain ⟨t2, r2, p2, hr, hno⟩ : ∃ (t2 : Tok) (r2 : Bool) (p2 : Int), sgs E (n + t1.b.length) (r1 ++ none :: some t :: r) = GSign.mk t2.k t2.t t2.n p2 r2 :: (sgs E (n + t1.b.length) (r1 ++ none :: some t :: r)).tail ∧ ((t2.k == 4) && sEq t2.t (bs [41])) = false := by
      rcases he (by simpa using c) with rfl | ⟨t2, r2, rfl, h⟩
      · exact ⟨t, _, _, rfl, no41⟩
      · exact ⟨t2, _, _, rfl, h⟩
    rw [hr] at h2
    obtain ⟨h3, h4⟩ := at0 h2
    have hi : i + 1 < L.length := (List.getElem?_eq_some_iff.1 h3).1
    rw [if_pos (by simp; omega), gat h3, obs]
    cases c4 : (t2.k == 4) with
    | true =>
      rw [if_pos (show true = true from rfl), obs]
      rw [c4] at hno
      have hno : sEq t2.t (bs [41]) = false := hno
      show pQ_l06Read_round_J1 k _ _ _ _ _ _ (sEq t2.t (bs [41])) _ = _
      rw [hno]
      exact J
    | false =>
      rw [if_neg Bool.false_ne_true]
      exact J
theorem prim_o {t : Tok} {x y : D} (ht : t ∈ oT) (hx : Prim x) (hy : Prim y) (okx : x.ok) : Prim (.o t x y) := by
  intro k L i p E R dd S most hk hL hE hlen hdd hS hsz hpos
  have e1 : (D.o t x y).dep = 1 + max x.dep y.dep := rfl
  have e2 : (D.o t x y).sz = x.sz + y.sz := rfl
  have e3 := congrArg List.length (b_o t x y)
  simp only [List.length_append, List.length_cons, List.length_nil] at e3
  obtain ⟨k, rfl⟩ : ∃ j, k = j + 5 := ⟨k - 5, by omega⟩
  rw [w_o] at hL
  obtain ⟨h1, h2⟩ := at0 (s := GSign.mk 4 (bs [40]) 0 p (nearB (bytes (x.w.1 ++ (none :: some t :: none :: (y.w.1 ++ [mk 41]))) ++ E))) (R := sgs E (p + 1) (x.w.1 ++ (none :: some t :: none :: (y.w.1 ++ [mk 41]))) ++ R) hL
  have q : sgs E (p + 1) (x.w.1 ++ (none :: some t :: none :: (y.w.1 ++ [mk 41]))) ++ R = sgs (bytes (none :: some t :: none :: (y.w.1 ++ [mk 41])) ++ E) (p + 1) x.w.1 ++ (GSign.mk t.k t.t t.n ((p + 1 + x.b.length + 1 : Nat) : Int) false :: (sgs E (p + 1 + x.b.length + 1 + t.b.length + 1) (y.w.1 ++ [mk 41]) ++ R)) := by
    rw [sgs_app, List.append_assoc]; rfl
  have h2' := h2
  rw [q] at h2'
  obtain ⟨lo, ln⟩ := rn_low x S okx hS
  obtain ⟨j, a1, a2⟩ := hx (k + 2) L (i + 1) (p + 1) _ _ (dd + 1) S 1200 (by omega) h2' rfl hlen (by omega) hS (by omega) (by omega)
  obtain ⟨a3, a4⟩ := at0 a1
  obtain ⟨op, o1, o2, o3, o4⟩ := rInfix (k := k + 2) (by omega) (d := ((dd + 1 : Nat) : Int)) (N := (rn x S).2.map nm) a3 ht rfl rfl rfl
  obtain ⟨j2, s, c1, c2, c3, c4, c5⟩ := argOf hy (k := k + 2) (by omega) a4 (by decide) hlen (dd := dd + 1) (by omega) lo (by omega) (by omega) (most := op.gRight) (.inr (by kernel_rfl))
  refine ⟨j2 + 1, c4, ?_⟩
  have w1 : wr.i64 ((dd : Int) + 1) = ((dd + 1 : Nat) : Int) := wsucc (by omega)
  have w2 : wr.i64 (((dd + 1 : Nat) : Int) - 1) = (dd : Int) := by rw [wr_i64 (by omega) (by omega)]; omega
  have T : pQ_l06Read_term (k + 3) (St L (i + 1) (dd : Int) (S.map nm)) 1200 = some (St L j2 (dd : Int) ((rn y (rn x S).2).2.map nm), .mk 4 t.t 0 [(rn x S).1.g, (rn y (rn x S).2).1.g]) := by
    rw [pQ_l06Read_term, if_neg (by show ¬ (false = true); decide)]
    unfold pQ_l06Read_term_J1
    rw [show (St L (i + 1) (dd : Int) (S.map nm)).gDeep = (dd : Int) from rfl, w1, if_neg (by simp; omega)]
    rw [show GXr.mk (St L (i + 1) (dd : Int) (S.map nm)).gList (St L (i + 1) (dd : Int) (S.map nm)).gAt (St L (i + 1) (dd : Int) (S.map nm)).gBad ((dd + 1 : Nat) : Int) (St L (i + 1) (dd : Int) (S.map nm)).gNames = St L (i + 1) ((dd + 1 : Nat) : Int) (S.map nm) from rfl, a2, obs]
    rw [pQ_l06Read_term_L2, if_pos (show (!(St L j ((dd + 1 : Nat) : Int) ((rn x S).2.map nm)).gBad) = true from rfl), o1, obs, if_neg (by show ¬ (false = true); decide), if_neg (by simp; omega), if_neg (by simp; omega)]
    have hj : j < L.length := (List.getElem?_eq_some_iff.1 a3).1
    show ((Option.bind (pQ_l06Read_term (k + 2) (GXr.mk L (wr.i64 ((j : Int) + 1)) false ((dd + 1 : Nat) : Int) ((rn x S).2.map nm)) op.gRight) _).bind _) = _
    rw [wsucc (by omega), show GXr.mk L ((j + 1 : Nat) : Int) false ((dd + 1 : Nat) : Int) ((rn x S).2.map nm) = St L (j + 1) ((dd + 1 : Nat) : Int) ((rn x S).2.map nm) from rfl, c5, obs]
    have st : Stop s 1200 := by
      refine ⟨by rw [c2]; rfl, fun e => ?_⟩
      rw [c2, c3] at e
      have e44 : (((4 : Int) == 4) && sEq (bs [41]) (bs [44])) = false := by kernel_rfl
      rw [e44] at e
      cases e
    show ((Option.bind (pQ_l03Two (k + 2) op.gName (rn x S).1.g (rn y (rn x S).2).1.g) _).bind _) = _
    rw [o2]
    show ((pQ_l06Read_term_L2 (k + 2) _ _ _ _ _ _ 1200 (k + 1) op.gPrio (.mk 4 t.t 0 [(rn x S).1.g, (rn y (rn x S).2).1.g]) (St L j2 ((dd + 1 : Nat) : Int) ((rn y (rn x S).2).2.map nm))).bind _) = _
    rw [rL2 (by omega) c1 st k op.gPrio]
    simp only [obs]
    rw [show (St L j2 ((dd + 1 : Nat) : Int) ((rn y (rn x S).2).2.map nm)).gDeep = ((dd + 1 : Nat) : Int) from rfl, w2]
    rfl
  rw [pRound h1 hlen rfl rfl, rRound okx ht h2 hlen, T, obs, rWants c1 hlen (mk41 c2 c3)]
  rfl
def fold2 (z : GTerm) : List GTerm → GTerm
  | [] => z
  | x :: r => .mk 4 (bs [46]) 0 [x, fold2 z r]
theorem fold2_snoc (z a : GTerm) : ∀ v : List GTerm, fold2 z (v ++ [a]) = fold2 (.mk 4 (bs [46]) 0 [a, z]) v
  | [] => rfl
  | x :: r => by rw [List.cons_append, fold2, fold2, fold2_snoc z a r]
theorem rowFold {k : Nat} {v : List GTerm} (hv : v.length ≤ 3000) : ∀ (j m : Nat) (b : GTerm), j ≤ v.length → j < m →
    pQ_l06Read_row_L2 k (pQ_l06Read_atom k) (pQ_l06Read_primary k) (pQ_l06Read_round k) (pQ_l06Read_row k) (pQ_l06Read_some k) (pQ_l06Read_term k) v m ((j : Int) - 1) b = some (.done (fold2 b (v.take j)))
  | 0, m + 1, b, _, _ => by
    rw [pQ_l06Read_row_L2, if_neg (by simp)]
    rfl
  | j + 1, m + 1, b, h1, h2 => by
    have e : ((j + 1 : Nat) : Int) - 1 = (j : Int) := by omega
    have w : wr.i64 ((j : Int) - 1) = (j : Int) - 1 := by rw [wr_i64 (by omega) (by omega)]
    have hj : j < v.length := by omega
    rw [e, pQ_l06Read_row_L2, if_pos (by simp), at_lt hj, obs]
    unfold pQ_l03Two
    rw [obs, w, rowFold hv j m _ (by omega) (by omega), ← List.take_append_getElem hj, fold2_snoc]
def aft (k : Nat) (b : GTerm) (m : Nat) (v : List GTerm) (r : GXr) : Option (Out (GXr × GTerm) ((List GTerm) × GTerm × GXr)) :=
  (pQ_l06Read_mark k r (bs [93])).bind fun s473_ =>
  if s473_.2 = true then
    some (.done (v, b, s473_.1))
  else
    (pQ_l06Read_mark k s473_.1 (bs [124])).bind fun s474_ =>
    if s474_.2 = true then
      (pQ_l06Read_term k s474_.1 999).bind fun t475_ =>
      (pQ_l06Read_wants k t475_.1 (bs [93])).bind fun r476_ =>
      some (.done (v, t475_.2, r476_))
    else
      (pQ_l06Read_wants k s474_.1 (bs [44])).bind fun r477_ =>
      pQ_l06Read_row_L1 k (pQ_l06Read_atom k) (pQ_l06Read_primary k) (pQ_l06Read_round k) (pQ_l06Read_row k) (pQ_l06Read_some k) (pQ_l06Read_term k) b m v r477_
theorem rowStep {k m : Nat} {L : List GSign} {i j : Nat} {d : Int} {N N' : List ByteArray} {g b : GTerm} {v : List GTerm} (ht : pQ_l06Read_term k (St L i d N) 999 = some (St L j d N', g)) (hv : v.length ≤ 3000) :
    pQ_l06Read_row_L1 k (pQ_l06Read_atom k) (pQ_l06Read_primary k) (pQ_l06Read_round k) (pQ_l06Read_row k) (pQ_l06Read_some k) (pQ_l06Read_term k) b (m + 1) v (St L i d N) = aft k b m (v ++ [g]) (St L j d N') := by
  rw [pQ_l06Read_row_L1, if_pos (show (!(St L i d N).gBad) = true from rfl), ht, obs, if_pos (by rw [List.length_singleton]; omega)]
  rfl
theorem aftEnd {k m : Nat} {L : List GSign} {j : Nat} {d : Int} {N : List ByteArray} {b : GTerm} {v : List GTerm} {s : GSign} (hlen : L.length ≤ 3000) (hj : L[j]? = some s) (h4 : s.gKind = 4) (h93 : s.gText = bs [93]) :
    aft k b m v (St L j d N) = some (.done (v, b, St L (j + 1) d N)) := by
  unfold aft
  rw [rMark hj hlen, if_pos (show ((s.gKind == 4) && (sEq (bs [93]) (bs []) || sEq s.gText (bs [93]))) = true by rw [h4, h93, sEq_refl]; simp), obs, if_pos rfl]
theorem aftBar {k m : Nat} {L : List GSign} {j j2 : Nat} {d : Int} {N N' : List ByteArray} {b g : GTerm} {v : List GTerm} {s s2 : GSign} (hlen : L.length ≤ 3000) (hj : L[j]? = some s) (h4 : s.gKind = 4) (h124 : s.gText = bs [124]) (ht : pQ_l06Read_term k (St L (j + 1) d N) 999 = some (St L j2 d N', g)) (hj2 : L[j2]? = some s2) (g4 : s2.gKind = 4) (g93 : s2.gText = bs [93]) :
    aft k b m v (St L j d N) = some (.done (v, g, St L (j2 + 1) d N')) := by
  have e : ((s.gKind == 4) && (sEq (bs [93]) (bs []) || sEq s.gText (bs [93]))) = false := by rw [h4, h124]; kernel_rfl
  unfold aft
  rw [rMark hj hlen, if_neg (by rw [e]; exact Bool.false_ne_true), obs, if_neg Bool.false_ne_true, rMark hj hlen, if_pos (show ((s.gKind == 4) && (sEq (bs [124]) (bs []) || sEq s.gText (bs [124]))) = true by rw [h4, h124, sEq_refl]; simp), obs, if_pos rfl, ht, obs,
    rWants hj2 hlen (tx := bs [93]) (by rw [g4, g93, sEq_refl]; simp), obs]
theorem aftComma {k m : Nat} {L : List GSign} {j : Nat} {d : Int} {N : List ByteArray} {b : GTerm} {v : List GTerm} {s : GSign} (hlen : L.length ≤ 3000) (hj : L[j]? = some s) (h4 : s.gKind = 4) (h44 : s.gText = bs [44]) :
    aft k b m v (St L j d N) = pQ_l06Read_row_L1 k (pQ_l06Read_atom k) (pQ_l06Read_primary k) (pQ_l06Read_round k) (pQ_l06Read_row k) (pQ_l06Read_some k) (pQ_l06Read_term k) b m v (St L (j + 1) d N) := by
  have e : ((s.gKind == 4) && (sEq (bs [93]) (bs []) || sEq s.gText (bs [93]))) = false := by rw [h4, h44]; kernel_rfl
  have e2 : ((s.gKind == 4) && (sEq (bs [124]) (bs []) || sEq s.gText (bs [124]))) = false := by rw [h4, h44]; kernel_rfl
  unfold aft
  rw [rMark hj hlen, if_neg (by rw [e]; exact Bool.false_ne_true), obs, if_neg Bool.false_ne_true, rMark hj hlen, if_neg (by rw [e2]; exact Bool.false_ne_true), obs, if_neg Bool.false_ne_true,
    rWants hj hlen (tx := bs [44]) (by rw [h4, h44, sEq_refl]; simp), obs]
theorem w2_p (x y : D) : (D.p x y).w.2 = mk 44 :: (x.w.1 ++ y.w.2) := by rw [D.w]
theorem w2_head (d : D) : (∃ c r, d.w.2 ++ [mk 93] = mk c :: r ∧ (c = 44 ∨ c = 93 ∨ c = 124)) := by
  cases d with
  | p x y => exact ⟨44, _, by rw [w2_p]; rfl, by decide⟩
  | e => exact ⟨93, [], rfl, by decide⟩
  | v n => exact ⟨124, _, rfl, by decide⟩
  | a t => exact ⟨124, _, rfl, by decide⟩
  | q t => exact ⟨124, _, rfl, by decide⟩
  | i t => exact ⟨124, _, rfl, by decide⟩
  | m => exact ⟨124, _, rfl, by decide⟩
  | o t x y => exact ⟨124, _, by rw [D.w]; rfl, by decide⟩
  | f1 t x => exact ⟨124, _, by rw [D.w]; rfl, by decide⟩
  | f2 t x y => exact ⟨124, _, by rw [D.w]; rfl, by decide⟩
  | f3 t x y z => exact ⟨124, _, by rw [D.w]; rfl, by decide⟩
theorem w2_other {d : D} (h1 : ∀ x y, d ≠ .p x y) (h2 : d ≠ .e) : d.w.2 = mk 124 :: d.w.1 := by
  cases d with
  | p x y => exact absurd rfl (h1 x y)
  | e => exact absurd rfl h2
  | _ => rfl
def Aft (k : Nat) (L : List GSign) (R : List GSign) (dd : Nat) (d : D) (j : Nat) (S : List Int) (m : Nat) (v : List GTerm) : Prop :=
  ∃ j' its z, L.drop j' = R ∧ aft k (.mk 2 (bs [91, 93]) 0 []) m v (St L j (dd : Int) (S.map nm)) = some (.done (v ++ its, z, St L j' (dd : Int) ((rn d S).2.map nm))) ∧ fold2 z its = (rn d S).1.g ∧ its.length ≤ d.dep
theorem aftOther {d : D} (h1 : ∀ x y, d ≠ .p x y) (h2 : d ≠ .e) (hd : Prim d) {k : Nat} {L : List GSign} {j n : Nat} {E : List UInt8} {R : List GSign} {dd : Nat} {S : List Int} {m : Nat} {v : List GTerm} (hk : 3200 + 10 * d.dep < k) (hL : L.drop j = sgs E n (d.w.2 ++ [mk 93]) ++ R) (hlen : L.length ≤ 3000) (hdd : dd + 2 * d.dep ≤ 119) (hS : low S) (hsz : S.length + d.sz ≤ 2900) (hp : n + d.rb.length ≤ 100000) : Aft k L R dd d j S m v := by
  have hb := congrArg List.length (rb_other h1 h2)
  rw [List.length_cons] at hb
  rw [w2_other h1 h2] at hL
  obtain ⟨a1, a2⟩ := at0 (s := GSign.mk 4 (bs [124]) 0 (n : Int) (nearB (bytes (d.w.1 ++ [mk 93]) ++ E))) (R := sgs E (n + 1) (d.w.1 ++ [mk 93]) ++ R) hL
  obtain ⟨j2, s, c1, c2, c3, c4, c5⟩ := argOf hd (k := k) hk a2 (by decide) hlen (dd := dd) hdd hS hsz (by omega) (most := 999) (.inl (by omega))
  exact ⟨j2 + 1, [], _, c4, by rw [aftBar hlen a1 rfl rfl c5 c1 c2 c3, List.append_nil], rfl, Nat.zero_le _⟩
theorem aftAll {k N : Nat} {L : List GSign} {E : List UInt8} {R : List GSign} {dd : Nat} (H : ∀ u : D, u.dep ≤ N → u.ok → Prim u) (hlen : L.length ≤ 3000) (hk : 3200 + 10 * N < k) (hdd : dd + 2 * N ≤ 119) :
    ∀ (d : D), d.dep ≤ N → d.ok → ∀ (j n : Nat) (S : List Int) (m : Nat) (v : List GTerm), L.drop j = sgs E n (d.w.2 ++ [mk 93]) ++ R → low S → S.length + d.sz ≤ 2900 → n + d.rb.length ≤ 100000 → v.length + d.dep ≤ 3000 → d.dep < m → Aft k L R dd d j S m v := by
  intro d
  induction d with
  | p x y ihx ihy =>
    intro hd hok j n S m v hL hS hsz hp hv hm
    have e1 : (D.p x y).dep = 1 + max x.dep y.dep := rfl
    have e2 : (D.p x y).sz = x.sz + y.sz := rfl
    have e3 := congrArg List.length (rb_p x y)
    simp only [List.length_append, List.length_cons] at e3
    obtain ⟨m, rfl⟩ : ∃ i, m = i + 1 := ⟨m - 1, by omega⟩
    rw [w2_p] at hL
    obtain ⟨a1, a2⟩ := at0 (s := GSign.mk 4 (bs [44]) 0 (n : Int) (nearB (bytes (x.w.1 ++ y.w.2 ++ [mk 93]) ++ E))) (R := sgs E (n + 1) (x.w.1 ++ y.w.2 ++ [mk 93]) ++ R) hL
    obtain ⟨c, r, w1, w2⟩ := w2_head y
    have q : sgs E (n + 1) (x.w.1 ++ y.w.2 ++ [mk 93]) ++ R = sgs (bytes (mk c :: r) ++ E) (n + 1) x.w.1 ++ (sgs E (n + 1 + x.b.length) (mk c :: r) ++ R) := by
      rw [List.append_assoc, w1, sgs_app, List.append_assoc]; rfl
    rw [q] at a2
    obtain ⟨lo, ln⟩ := rn_low x S hok.1 hS
    obtain ⟨j1, b1, b2⟩ := term_of (H x (by omega) hok.1) (k := k) (by omega) (s := GSign.mk 4 (bs [c]) 0 ((n + 1 + x.b.length : Nat) : Int) (nearB (bytes r ++ E))) (R := sgs E (n + 1 + x.b.length + 1) r ++ R) (most := 999) a2 (by rcases w2 with rfl | rfl | rfl <;> rfl) hlen (dd := dd) (by omega) hS (by omega) (by omega) (stopMark (.inl (by omega)))
    have b1' : L.drop j1 = sgs E (n + 1 + x.b.length) (y.w.2 ++ [mk 93]) ++ R := by rw [b1, w1]; rfl
    obtain ⟨j', its, z, f1, f2, f3, f4⟩ := ihy (by omega) hok.2 j1 (n + 1 + x.b.length) (rn x S).2 m (v ++ [(rn x S).1.g]) b1' lo (by omega) (by omega) (by simp; omega) (by omega)
    refine ⟨j', (rn x S).1.g :: its, z, f1, ?_, ?_, by simp; omega⟩
    · rw [aftComma hlen a1 rfl rfl, rowStep b2 (by omega), f2, List.append_assoc]
      rfl
    · rw [fold2, f3]
      rfl
  | e =>
    intro hd hok j n S m v hL hS hsz hp hv hm
    obtain ⟨a1, a2⟩ := at0 (s := GSign.mk 4 (bs [93]) 0 (n : Int) (nearB (bytes [] ++ E))) (R := R) hL
    exact ⟨j + 1, [], _, a2, by rw [aftEnd hlen a1 rfl rfl, List.append_nil]; rfl, rfl, Nat.zero_le _⟩
  | v _ | a _ | q _ | i _ | m | o _ _ _ _ _ | f1 _ _ _ | f2 _ _ _ _ _ | f3 _ _ _ _ _ _ _ =>
    intro hd hok j n S m v hL hS hsz hp hv hm
    exact aftOther (by intro x y h; cases h) (by intro h; cases h) (H _ hd hok) (by omega) hL hlen (by omega) hS hsz hp
theorem prim_p {N : Nat} {x y : D} (H : ∀ u : D, u.dep ≤ N → u.ok → Prim u) (hN : max x.dep y.dep = N) (okx : x.ok) (oky : y.ok) : Prim (.p x y) := by
  intro k L i p E R dd S most hk hL hE hlen hdd hS hsz hpos
  have e1 : (D.p x y).dep = 1 + max x.dep y.dep := rfl
  have e2 : (D.p x y).sz = x.sz + y.sz := rfl
  have e3 := congrArg List.length (b_p x y)
  simp only [List.length_append, List.length_cons, List.length_nil] at e3
  obtain ⟨k, rfl⟩ : ∃ j, k = j + 5 := ⟨k - 5, by omega⟩
  rw [w_p] at hL
  obtain ⟨h1, h2⟩ := at0 (s := GSign.mk 4 (bs [91]) 0 p (nearB (bytes (x.w.1 ++ (y.w.2 ++ [mk 93])) ++ E))) (R := sgs E (p + 1) (x.w.1 ++ (y.w.2 ++ [mk 93])) ++ R) hL
  obtain ⟨c, r, w1, w2⟩ := w2_head y
  have q : sgs E (p + 1) (x.w.1 ++ (y.w.2 ++ [mk 93])) ++ R = sgs (bytes (mk c :: r) ++ E) (p + 1) x.w.1 ++ (sgs E (p + 1 + x.b.length) (mk c :: r) ++ R) := by
    rw [w1, sgs_app, List.append_assoc]; rfl
  have h2' := h2
  rw [q] at h2'
  obtain ⟨lo, ln⟩ := rn_low x S okx hS
  obtain ⟨j1, b1, b2⟩ := term_of (H x (by omega) okx) (k := k + 3) (by omega) (s := GSign.mk 4 (bs [c]) 0 ((p + 1 + x.b.length : Nat) : Int) (nearB (bytes r ++ E))) (R := sgs E (p + 1 + x.b.length + 1) r ++ R) (most := 999) h2' (by rcases w2 with rfl | rfl | rfl <;> rfl) hlen (dd := dd) (by omega) hS (by omega) (by omega) (stopMark (.inl (by omega)))
  have b1' : L.drop j1 = sgs E (p + 1 + x.b.length) (y.w.2 ++ [mk 93]) ++ R := by rw [b1, w1]; rfl
  obtain ⟨j', its, z, f1, f2, f3, f4⟩ := aftAll (k := k + 3) H hlen (by omega) (dd := dd) (by omega) y (by omega) oky j1 (p + 1 + x.b.length) (rn x S).2 (k + 2) [(rn x S).1.g] b1' lo (by omega) (by omega) (by simp; omega) (by omega)
  obtain ⟨t1, r1, g1, g2, _⟩ := headTok okx
  rw [g1] at h2
  obtain ⟨m1, _⟩ := at0 (s := GSign.mk t1.k t1.t t1.n ((p + 1 : Nat) : Int) (nearB (bytes (r1 ++ (y.w.2 ++ [mk 93])) ++ E))) (R := sgs E (p + 1 + t1.b.length) (r1 ++ (y.w.2 ++ [mk 93])) ++ R) h2
  refine ⟨j', f1, ?_⟩
  have n93 : sEq (bs [93]) (bs []) = false := by kernel_rfl
  rw [pRow h1 hlen rfl rfl, pQ_l06Read_row, rMark m1 hlen, if_neg (show ¬ (((t1.k == 4) && (sEq (bs [93]) (bs []) || sEq t1.t (bs [93]))) = true) by rw [n93, Bool.false_or, g2]; exact Bool.false_ne_true), obs, if_neg Bool.false_ne_true]
  unfold pQ_l03Atom
  rw [obs, show k + 3 = (k + 2) + 1 from rfl, rowStep b2 (by simp), List.nil_append, f2, obs]
  have hl : ([(rn x S).1.g] ++ its).length = its.length + 1 := by simp
  have wl : wr.i64 (((([(rn x S).1.g] ++ its).length : Nat) : Int) - 1) = (([(rn x S).1.g] ++ its).length : Int) - 1 := by rw [wr_i64 (by omega) (by omega)]
  simp only [wl]
  rw [rowFold (by omega) _ (k + 2 + 1) z (Nat.le_refl _) (by omega), List.take_length]
  simp only [obs]
  show some (St L j' (dd : Int) ((rn y (rn x S).2).2.map nm), GTerm.mk 4 (bs [46]) 0 [(rn x S).1.g, fold2 z its], (0 : Int)) = _
  rw [f3]
  rfl
theorem prims : ∀ (N : Nat) (d : D), d.dep ≤ N → d.ok → Prim d := by
  intro N
  induction N with
  | zero =>
    intro d hd hok
    cases d with
    | v n => exact prim_v hok
    | a t => exact prim_a hok
    | q t => exact prim_q hok
    | e => exact prim_e
    | i t => exact prim_i hok
    | m => exact prim_m
    | p x y | o t x y | f1 t x | f2 t x y | f3 t x y z => simp only [D.dep] at hd; omega
  | succ N ih =>
    intro d hd hok
    cases d with
    | v n => exact prim_v hok
    | a t => exact prim_a hok
    | q t => exact prim_q hok
    | e => exact prim_e
    | i t => exact prim_i hok
    | m => exact prim_m
    | p x y => simp only [D.dep] at hd; exact prim_p (fun u hu ho => ih u (by omega) ho) rfl hok.1 hok.2
    | o t x y => simp only [D.dep] at hd; exact prim_o hok.1 (ih x (by omega) hok.2.1) (ih y (by omega) hok.2.2) hok.2.1
    | f1 t x => simp only [D.dep] at hd; exact prim_f1 hok.1 (ih x (by omega) hok.2)
    | f2 t x y => simp only [D.dep] at hd; exact prim_f2 (gf hok.1) (ih x (by omega) hok.2.1) (ih y (by omega) hok.2.2) hok.2.1
    | f3 t x y z => simp only [D.dep] at hd; exact prim_f3 hok.1 (ih x (by omega) hok.2.1) (ih y (by omega) hok.2.2.1) (ih z (by omega) hok.2.2.2) hok.2.1 hok.2.2.1
def D.mp (f : Nat → Nat) : D → D
  | .v n => .v (f n)
  | .p x y => .p (x.mp f) (y.mp f)
  | .o t x y => .o t (x.mp f) (y.mp f)
  | .f1 t x => .f1 t (x.mp f)
  | .f2 t x y => .f2 t (x.mp f) (y.mp f)
  | .f3 t x y z => .f3 t (x.mp f) (y.mp f) (z.mp f)
  | d => d
def vsD : D → List Int
  | .v n => [(n : Int)]
  | .p x y => vsD x ++ vsD y
  | .o _ x y => vsD x ++ vsD y
  | .f1 _ x => vsD x
  | .f2 _ x y => vsD x ++ vsD y
  | .f3 _ x y z => vsD x ++ (vsD y ++ vsD z)
  | _ => []
theorem vs_g : ∀ d : D, vs d.g = vsD d := by
  intro d
  induction d with
  | v n => rfl
  | a t => rfl
  | q t => rfl
  | e => rfl
  | i t => rfl
  | m => rfl
  | p x y ihx ihy => simp only [D.g, vs, vss, vsD, ihx, ihy, List.append_nil]; rfl
  | o t x y ihx ihy => simp only [D.g, vs, vss, vsD, ihx, ihy, List.append_nil]; rfl
  | f1 t x ihx => simp only [D.g, vs, vss, vsD, ihx, List.append_nil]; rfl
  | f2 t x y ihx ihy => simp only [D.g, vs, vss, vsD, ihx, ihy, List.append_nil]; rfl
  | f3 t x y z ihx ihy ihz => simp only [D.g, vs, vss, vsD, ihx, ihy, ihz, List.append_nil]; rfl
theorem rn_uniq : ∀ (d : D) (S : List Int), (rn d S).2 = uniq (vsD d) S := by
  intro d
  induction d with
  | v n => intro S; rfl
  | p x y ihx ihy => intro S; simp only [rn, vsD, uniq_app, ihx, ihy]
  | o t x y ihx ihy => intro S; simp only [rn, vsD, uniq_app, ihx, ihy]
  | f1 t x ihx => intro S; simp only [rn, vsD, ihx]
  | f2 t x y ihx ihy => intro S; simp only [rn, vsD, uniq_app, ihx, ihy]
  | f3 t x y z ihx ihy ihz => intro S; simp only [rn, vsD, uniq_app, ihx, ihy, ihz]
  | _ => intro S; rfl
theorem uniq_pre : ∀ (l S : List Int), S <+: uniq l S
  | [], S => List.prefix_refl S
  | x :: l, S => by
    rw [uniq]
    refine List.IsPrefix.trans ?_ (uniq_pre l _)
    split
    · exact List.prefix_refl S
    · exact List.prefix_append ..
theorem rn_pre (d : D) (S : List Int) : S <+: (rn d S).2 := by rw [rn_uniq]; exact uniq_pre _ _
theorem idx_pre {P F : List Int} (h : P <+: F) {n : Int} (hn : n ∈ P) : F.idxOf n = P.idxOf n := by
  obtain ⟨T, rfl⟩ := h
  rw [List.idxOf_append, if_pos hn]
theorem mem_add (S : List Int) (n : Int) : n ∈ add S n := by
  unfold add
  split
  · assumption
  · simp
theorem rn_mp : ∀ (d : D) (S F : List Int), (rn d S).2 <+: F → (rn d S).1 = d.mp (fun n => F.idxOf (n : Int)) := by
  intro d
  induction d with
  | v n => intro S F h; show D.v ((add S n).idxOf (n : Int)) = D.v (F.idxOf (n : Int)); rw [idx_pre (F := F) (P := add S n) h (mem_add S n)]
  | p x y ihx ihy => intro S F h; simp only [rn, D.mp]; rw [ihy _ F h, ihx S F (List.IsPrefix.trans (rn_pre y _) h)]
  | o t x y ihx ihy => intro S F h; simp only [rn, D.mp]; rw [ihy _ F h, ihx S F (List.IsPrefix.trans (rn_pre y _) h)]
  | f1 t x ihx => intro S F h; simp only [rn, D.mp]; rw [ihx S F h]
  | f2 t x y ihx ihy => intro S F h; simp only [rn, D.mp]; rw [ihy _ F h, ihx S F (List.IsPrefix.trans (rn_pre y _) h)]
  | f3 t x y z ihx ihy ihz => intro S F h; simp only [rn, D.mp]; rw [ihz _ F h, ihy _ F (List.IsPrefix.trans (rn_pre z _) h), ihx S F (List.IsPrefix.trans (rn_pre y _) (List.IsPrefix.trans (rn_pre z _) h))]
  | _ => intro S F h; rfl
theorem vsD_mp (f : Nat → Nat) (g : Int → Int) (h : ∀ n : Nat, g n = f n) : ∀ d : D, vsD (d.mp f) = (vsD d).map g := by
  intro d
  induction d with
  | v n => simp only [D.mp, vsD, List.map_cons, List.map_nil, h]
  | p x y ihx ihy => simp only [D.mp, vsD, List.map_append, ihx, ihy]
  | o t x y ihx ihy => simp only [D.mp, vsD, List.map_append, ihx, ihy]
  | f1 t x ihx => simp only [D.mp, vsD, ihx]
  | f2 t x y ihx ihy => simp only [D.mp, vsD, List.map_append, ihx, ihy]
  | f3 t x y z ihx ihy ihz => simp only [D.mp, vsD, List.map_append, ihx, ihy, ihz]
  | _ => rfl
theorem idx_inj {F : List Int} {x y : Int} (hx : x ∈ F) (hy : y ∈ F) (h : F.idxOf x = F.idxOf y) : x = y := by
  have a := List.getElem_idxOf (List.idxOf_lt_length_of_mem hx)
  have b := List.getElem_idxOf (List.idxOf_lt_length_of_mem hy)
  rw [← a, ← b]
  simp only [h]
theorem uniq_map {F : List Int} {g : Int → Int} (hg : ∀ x y, x ∈ F → y ∈ F → g x = g y → x = y) : ∀ (l o : List Int), (∀ x ∈ l, x ∈ F) → (∀ x ∈ o, x ∈ F) → uniq (l.map g) (o.map g) = (uniq l o).map g
  | [], o, _, _ => rfl
  | x :: l, o, hl, ho => by
    have hx := hl x (List.mem_cons_self ..)
    have hm : g x ∈ o.map g ↔ x ∈ o := by
      rw [List.mem_map]
      exact ⟨fun ⟨y, h1, h2⟩ => by rw [hg x y hx (ho y h1) h2.symm]; exact h1, fun h => ⟨x, h, rfl⟩⟩
    rw [List.map_cons, uniq, uniq]
    by_cases c : x ∈ o
    · rw [if_pos c, if_pos (hm.2 c)]
      exact uniq_map hg l o (fun y hy => hl y (List.mem_cons_of_mem _ hy)) ho
    · rw [if_neg c, if_neg (fun h => c (hm.1 h)), ← List.map_singleton, ← List.map_append]
      refine uniq_map hg l _ (fun y hy => hl y (List.mem_cons_of_mem _ hy)) (fun y hy => ?_)
      rcases List.mem_append.1 hy with hy | hy
      · exact ho y hy
      · rw [List.mem_singleton.1 hy]; exact hx
theorem idx_map {F : List Int} {g : Int → Int} (hg : ∀ x y, x ∈ F → y ∈ F → g x = g y → x = y) {x : Int} (hx : x ∈ F) : ∀ l : List Int, (∀ y ∈ l, y ∈ F) → (l.map g).idxOf (g x) = l.idxOf x
  | [], _ => rfl
  | y :: l, h => by
    have hy := h y (List.mem_cons_self ..)
    rw [List.map_cons, List.idxOf_cons, List.idxOf_cons, idx_map hg hx l (fun z hz => h z (List.mem_cons_of_mem _ hz))]
    have : (g y == g x) = (y == x) := by
      rw [Bool.eq_iff_iff, beq_iff_eq, beq_iff_eq]
      exact ⟨fun e => hg y x hy hx e, fun e => by rw [e]⟩
    rw [this]
theorem l03At_L1 {k : Nat} {l : List Int} {x : Int} (hl : l.length ≤ 100000) : ∀ (m j : Nat), j ≤ l.length → l.length - j < m → pQ_l03At_L1 k l x m (j : Int) = some (if x ∈ l.drop j then .ret ((j + (l.drop j).idxOf x : Nat) : Int) else .done ())
  | 0, j, h1, h2 => by omega
  | m + 1, j, h1, h2 => by
    unfold pQ_l03At_L1
    by_cases hlt : j < l.length
    · rw [if_pos (by simpa using hlt), at_lt hlt, List.drop_eq_getElem_cons hlt, obs]
      by_cases e : l[j] = x
      · rw [if_pos (by simpa using e), if_pos (by simp [e]), e, List.idxOf_cons_self]; rfl
      · rw [if_neg (by simpa using e), wr_i64 (by omega) (by omega), show ((j : Int) + 1) = ((j + 1 : Nat) : Int) by omega, l03At_L1 hl m (j + 1) (by omega) (by omega)]
        have hm : (x ∈ l[j] :: l.drop (j + 1)) ↔ x ∈ l.drop (j + 1) := by
          rw [List.mem_cons]; exact ⟨fun h => h.resolve_left (fun h => e h.symm), .inr⟩
        by_cases c : x ∈ l.drop (j + 1)
        · have e' : (l[j] == x) = false := by simpa using e
          rw [if_pos c, if_pos (hm.2 c), List.idxOf_cons, e', cond_false]
          congr 3
          omega
        · rw [if_neg c, if_neg (fun h => c (hm.1 h))]
    · rw [if_neg (by simpa using hlt), List.drop_of_length_le (by omega)]; simp
theorem l03At {k : Nat} {l : List Int} {x : Int} (hl : l.length ≤ 100000) (hk : 100000 < k) (hx : x ∈ l) : pQ_l03At k l x = some ((l.idxOf x : Nat) : Int) := by
  unfold pQ_l03At
  have e := l03At_L1 (k := k) (x := x) hl k 0 (by omega) (by omega)
  rw [show ((0 : Nat) : Int) = 0 from rfl, List.drop_zero, if_pos hx, Nat.zero_add] at e
  rw [e]; rfl
theorem likeKids {k : Nat} {F : GTerm → GTerm → List Int → List Int → Option Bool} {x y : GTerm} {A B : List Int} (hl : x.gKids.length = y.gKids.length) (h5 : x.gKids.length ≤ 5) (h : ∀ (j : Nat) (h1 : j < x.gKids.length) (h2 : j < y.gKids.length), F x.gKids[j] y.gKids[j] A B = some true) : ∀ (m j : Nat), x.gKids.length - j < m → pQ_l03Like_L1 k F x y A B m (j : Int) = some (.done ())
  | 0, j, h1 => by omega
  | m + 1, j, h1 => by
    rw [pQ_l03Like_L1]
    by_cases c : j < x.gKids.length
    · rw [if_pos (by simpa using c), at_lt c, obs, at_lt (by omega : j < y.gKids.length), obs, h j c (by omega), obs, if_neg (by decide), wsucc (by omega), likeKids hl h5 h m (j + 1) (by omega)]
    · rw [if_neg (by simpa using c)]
theorem likeOne {k : Nat} {F : GTerm → GTerm → List Int → List Int → Option Bool} {a : Int} {s : ByteArray} {n : Int} {l l' : List GTerm} {A B : List Int} (ha : (a == 1) = false) (hF : F = pQ_l03Like k) (hk : 10 < k) (hl : l.length = l'.length) (h5 : l.length ≤ 5) (h : ∀ (j : Nat) (h1 : j < l.length) (h2 : j < l'.length), pQ_l03Like k l[j] l'[j] A B = some true) : pQ_l03Like (k + 1) (.mk a s n l) (.mk a s n l') A B = some true := by
  have e := likeKids (k := k) (F := pQ_l03Like k) (x := .mk a s n l) (y := .mk a s n l') (A := A) (B := B) hl h5 h k 0 (by rw [mk_gKids]; omega)
  rw [show ((0 : Nat) : Int) = 0 from rfl] at e
  rw [pQ_l03Like, mk_gKind, mk_gKind, if_neg (by simp), mk_gName, mk_gName, if_neg (by rw [sEq_refl]; decide), mk_gKids, mk_gKids, if_neg (by simp [hl]), if_neg (by rw [ha]; decide), mk_gNum, mk_gNum, if_neg (by simp), e, obs]
theorem like {f : Nat → Nat} {A B : List Int} (H : ∀ (n : Nat) (k : Nat), 100000 < k → (n : Int) ∈ B → ∃ c, pQ_l03At k A (f n : Int) = some c ∧ pQ_l03At k B (n : Int) = some c) : ∀ (d : D), (∀ x ∈ vsD d, x ∈ B) → ∀ k, 100010 + d.dep < k → pQ_l03Like k (d.mp f).g d.g A B = some true := by
  intro d
  induction d with
  | v n =>
    intro h k hk
    obtain ⟨k, rfl⟩ : ∃ j, k = j + 1 := ⟨k - 1, by omega⟩
    obtain ⟨c, c1, c2⟩ := H n k (by omega) (h _ (List.mem_singleton.2 rfl))
    show pQ_l03Like (k + 1) (.mk 1 (bs []) (f n : Int) []) (.mk 1 (bs []) (n : Int) []) A B = some true
    rw [pQ_l03Like, mk_gKind, mk_gKind, if_neg (by decide), mk_gName, mk_gName, if_neg (by rw [sEq_refl]; decide), mk_gKids, mk_gKids, if_neg (by decide), if_pos (by decide), mk_gNum, mk_gNum, c1, obs, c2, obs]
    simp
  | a t | q t | e | i t | m =>
    intro h k hk
    obtain ⟨k, rfl⟩ : ∃ j, k = j + 1 := ⟨k - 1, by omega⟩
    exact likeOne rfl rfl (by omega) rfl (by simp) (fun j h1 _ => by simp at h1)
  | p x y ihx ihy | o t x y ihx ihy | f2 t x y ihx ihy =>
    intro h k hk
    obtain ⟨k, rfl⟩ : ∃ j, k = j + 1 := ⟨k - 1, by omega⟩
    simp only [D.dep] at hk
    have h : ∀ z ∈ vsD x ++ vsD y, z ∈ B := h
    refine likeOne (l := [(x.mp f).g, (y.mp f).g]) (l' := [x.g, y.g]) rfl rfl (by omega) rfl (by simp) (fun j h1 h2 => ?_)
    have h1 : j < 2 := h1
    match j, h1 with
    | 0, _ => exact ihx (fun z hz => h z (List.mem_append_left _ hz)) k (by omega)
    | 1, _ => exact ihy (fun z hz => h z (List.mem_append_right _ hz)) k (by omega)
  | f1 t x ihx =>
    intro h k hk
    obtain ⟨k, rfl⟩ : ∃ j, k = j + 1 := ⟨k - 1, by omega⟩
    simp only [D.dep] at hk
    refine likeOne (l := [(x.mp f).g]) (l' := [x.g]) rfl rfl (by omega) rfl (by simp) (fun j h1 h2 => ?_)
    have h1 : j < 1 := h1
    match j, h1 with
    | 0, _ => exact ihx h k (by omega)
  | f3 t x y z ihx ihy ihz =>
    intro h k hk
    obtain ⟨k, rfl⟩ : ∃ j, k = j + 1 := ⟨k - 1, by omega⟩
    simp only [D.dep] at hk
    have h : ∀ w ∈ vsD x ++ (vsD y ++ vsD z), w ∈ B := h
    refine likeOne (l := [(x.mp f).g, (y.mp f).g, (z.mp f).g]) (l' := [x.g, y.g, z.g]) rfl rfl (by omega) rfl (by simp) (fun j h1 h2 => ?_)
    have h1 : j < 3 := h1
    match j, h1 with
    | 0, _ => exact ihx (fun z hz => h z (List.mem_append_left _ hz)) k (by omega)
    | 1, _ => exact ihy (fun z hz => h z (List.mem_append_right _ (List.mem_append_left _ hz))) k (by omega)
    | 2, _ => exact ihz (fun z hz => h z (List.mem_append_right _ (List.mem_append_right _ hz))) k (by omega)
def DMade (d : Nat) (x : GTerm) : Prop := ∃ y : D, y.ok ∧ y.dep ≤ d ∧ x = y.g
theorem l03DMade_L2 {k d : Nat} {F : GXc → Int → Option (GXc × GTerm)} (hd : wr.i64 (((d + 1 : Nat) : Int) - 1) = (d : Int))
    (hF : ∀ c, CurOk c → ∃ c' t, F c (d : Int) = some (c', t) ∧ CurOk c' ∧ DMade d t) {s : ByteArray} :
    ∀ (m j : Nat) (l : List GTerm) (c : GXc), 4 - j < m → j ≤ 3 → CurOk c → l.length = j → (∀ y ∈ l, DMade d y) →
      ∃ t c', pQ_l03Made_L2 k F ((d + 1 : Nat) : Int) m (j : Int) (.mk 4 s 0 l) c = some (.done (t, c')) ∧ CurOk c' ∧ ∃ l', t = .mk 4 s 0 l' ∧ l'.length ≤ 3 ∧ (1 ≤ j ∨ 1 ≤ l'.length) ∧ j ≤ l'.length ∧ ∀ y ∈ l', DMade d y
  | 0, j, l, c, h1, h2, h3, h4, h5 => by omega
  | m + 1, j, l, c, h1, h2, h3, h4, h5 => by
    rw [pQ_l03Made_L2]
    obtain ⟨c', v, e, g1, g2, g3, _⟩ := l01Below h3 k 3
    have g3 := g3 (by decide)
    simp only [e, Option.bind_some]
    rw [wr_i64 (x := 1 + v) (by omega) (by omega)]
    by_cases q : (j : Int) < 1 + v
    · rw [if_pos (by simpa using q), mk_gKids, if_pos (by rw [decide_eq_true_eq]; omega), hd]
      obtain ⟨c2, t, e2, g4, g5⟩ := hF c' g1
      simp only [e2, Option.bind_some, mk_gKind, mk_gName, mk_gNum]
      rw [if_pos (by simp; omega), wr_i64 (by omega) (by omega), show ((j : Int) + 1) = ((j + 1 : Nat) : Int) by omega]
      obtain ⟨t', c3, e3, g6, l', rfl, g7, g8, g9, g10⟩ := l03DMade_L2 (k := k) hd hF (s := s) m (j + 1) (l ++ [t]) c2 (by omega) (by omega) g4 (by simp; omega) (by
        intro y hy
        rcases List.mem_append.1 hy with hy | hy
        · exact h5 y hy
        · rw [List.mem_singleton.1 hy]; exact g5)
      exact ⟨_, c3, e3, g6, l', rfl, g7, .inr (by omega), by omega, g10⟩
    · rw [if_neg (by simpa using q)]
      exact ⟨_, _, rfl, g1, l, rfl, by omega, .inl (by omega), by omega, h5⟩
theorem dname {s : ByteArray} (d : Nat) (h : s ∈ [(bs [97]), (bs [98]), (bs [91, 93]), (bs [43]), (bs [66, 105, 103]), bs [120], (bs [58, 45]), (bs [61, 46, 46])]) : DMade d (.mk 2 s 0 []) := by
  simp only [List.mem_cons, List.not_mem_nil, or_false] at h
  rcases h with rfl | rfl | rfl | rfl | rfl | rfl | rfl | rfl
  · exact ⟨.a ⟨[97], 1, bs [97], 0⟩, by simp [D.ok, aT], Nat.zero_le _, rfl⟩
  · exact ⟨.a ⟨[98], 1, bs [98], 0⟩, by simp [D.ok, aT], Nat.zero_le _, rfl⟩
  · exact ⟨.e, trivial, Nat.zero_le _, rfl⟩
  · exact ⟨.q ⟨[43], 1, bs [43], 0⟩, by simp [D.ok, qT], Nat.zero_le _, rfl⟩
  · exact ⟨.a ⟨[39, 66, 105, 103, 39], 1, bs [66, 105, 103], 0⟩, by simp [D.ok, aT], Nat.zero_le _, rfl⟩
  · exact ⟨.a ⟨[120], 1, bs [120], 0⟩, by simp [D.ok, aT], Nat.zero_le _, rfl⟩
  · exact ⟨.q ⟨[58, 45], 1, bs [58, 45], 0⟩, by simp [D.ok, qT], Nat.zero_le _, rfl⟩
  · exact ⟨.a ⟨[61, 46, 46], 1, bs [61, 46, 46], 0⟩, by simp [D.ok, aT], Nat.zero_le _, rfl⟩
theorem dvar {n : Int} (d : Nat) (h : 0 ≤ n ∧ n < 4) : DMade d (.mk 1 (bs []) n []) := by
  obtain ⟨m, rfl⟩ : ∃ m : Nat, n = m := ⟨n.toNat, by omega⟩
  exact ⟨.v m, by show m < 4; omega, Nat.zero_le _, rfl⟩
theorem dint {n : Int} (d : Nat) (h : n ∈ [(0 : Int), 1, -7, 999999999]) : DMade d (.mk 3 (bs []) n []) := by
  simp only [List.mem_cons, List.not_mem_nil, or_false] at h
  rcases h with rfl | rfl | rfl | rfl
  · exact ⟨.i ⟨[48], 3, bs [], 0⟩, by simp [D.ok, iT], Nat.zero_le _, rfl⟩
  · exact ⟨.i ⟨[49], 3, bs [], 1⟩, by simp [D.ok, iT], Nat.zero_le _, rfl⟩
  · exact ⟨.m, trivial, Nat.zero_le _, rfl⟩
  · exact ⟨.i ⟨[57, 57, 57, 57, 57, 57, 57, 57, 57], 3, bs [], 999999999⟩, by simp [D.ok, iT], Nat.zero_le _, rfl⟩
theorem dpair {d : Nat} {x y : GTerm} (hx : DMade d x) (hy : DMade d y) : DMade (d + 1) (.mk 4 (bs [46]) 0 [x, y]) := by
  obtain ⟨u, u1, u2, rfl⟩ := hx
  obtain ⟨v, v1, v2, rfl⟩ := hy
  exact ⟨.p u v, ⟨u1, v1⟩, by simp only [D.dep]; omega, rfl⟩
theorem dtwo {d : Nat} {t : Tok} {x y : GTerm} (ht : t ∈ oT) (hx : DMade d x) (hy : DMade d y) : DMade (d + 1) (.mk 4 t.t 0 [x, y]) := by
  obtain ⟨u, u1, u2, rfl⟩ := hx
  obtain ⟨v, v1, v2, rfl⟩ := hy
  exact ⟨.o t u v, ⟨ht, u1, v1⟩, by simp only [D.dep]; omega, rfl⟩
theorem df2 {d : Nat} {t : Tok} {x y : GTerm} (ht : t ∈ gT2) (hx : DMade d x) (hy : DMade d y) : DMade (d + 1) (.mk 4 t.t 0 [x, y]) := by
  obtain ⟨u, u1, u2, rfl⟩ := hx
  obtain ⟨v, v1, v2, rfl⟩ := hy
  exact ⟨.f2 t u v, ⟨ht, u1, v1⟩, by simp only [D.dep]; omega, rfl⟩
theorem d7 {d : Nat} {s : ByteArray} {x y : GTerm} (h : s ∈ [(bs [43]), (bs [61]), (bs [44]), (bs [102]), (bs [59])]) (hx : DMade d x) (hy : DMade d y) : DMade (d + 1) (.mk 4 s 0 [x, y]) := by
  simp only [List.mem_cons, List.not_mem_nil, or_false] at h
  rcases h with rfl | rfl | rfl | rfl | rfl
  · exact dtwo (t := ⟨[43], 1, bs [43], 0⟩) (by simp [oT]) hx hy
  · exact dtwo (t := ⟨[61], 1, bs [61], 0⟩) (by simp [oT]) hx hy
  · exact dtwo (t := ⟨[44], 4, bs [44], 0⟩) (by simp [oT]) hx hy
  · exact df2 (t := ⟨[102], 1, bs [102], 0⟩) (by simp [gT2]) hx hy
  · exact dtwo (t := ⟨[59], 1, bs [59], 0⟩) (by simp [oT]) hx hy
theorem dcall {d : Nat} {t : Tok} {l : List GTerm} (ht : t ∈ fT) (h2 : ∀ x y, DMade d x → DMade d y → DMade (d + 1) (.mk 4 t.t 0 [x, y])) (h3 : 1 ≤ l.length) (h4 : l.length ≤ 3) (h : ∀ y ∈ l, DMade d y) : DMade (d + 1) (.mk 4 t.t 0 l) := by
  match l, h3, h4, h with
  | [x], _, _, h =>
    obtain ⟨u, u1, u2, rfl⟩ := h x (by simp)
    exact ⟨.f1 t u, ⟨ht, u1⟩, by simp only [D.dep]; omega, rfl⟩
  | [x, y], _, _, h => exact h2 x y (h x (by simp)) (h y (by simp))
  | [x, y, z], _, _, h =>
    obtain ⟨u, u1, u2, rfl⟩ := h x (by simp)
    obtain ⟨v, v1, v2, rfl⟩ := h y (by simp)
    obtain ⟨w, w1, w2, rfl⟩ := h z (by simp)
    exact ⟨.f3 t u v w, ⟨ht, u1, v1, w1⟩, by simp only [D.dep]; omega, rfl⟩
theorem d8 {d : Nat} {s : ByteArray} {l : List GTerm} (hs : s ∈ [(bs [102]), (bs [103]), (bs [45]), (bs [91, 93])]) (h3 : 1 ≤ l.length) (h4 : l.length ≤ 3) (h : ∀ y ∈ l, DMade d y) : DMade (d + 1) (.mk 4 s 0 l) := by
  simp only [List.mem_cons, List.not_mem_nil, or_false] at hs
  rcases hs with rfl | rfl | rfl | rfl
  · exact dcall (t := ⟨[102], 1, bs [102], 0⟩) (by simp [fT]) (fun x y hx hy => df2 (t := ⟨[102], 1, bs [102], 0⟩) (by simp [gT2]) hx hy) h3 h4 h
  · exact dcall (t := ⟨[103], 1, bs [103], 0⟩) (by simp [fT]) (fun x y hx hy => df2 (t := ⟨[103], 1, bs [103], 0⟩) (by simp [gT2]) hx hy) h3 h4 h
  · exact dcall (t := ⟨[45], 1, bs [45], 0⟩) (by simp [fT]) (fun x y hx hy => dtwo (t := ⟨[45], 1, bs [45], 0⟩) (by simp [oT]) hx hy) h3 h4 h
  · exact dcall (t := ⟨[39, 91, 93, 39], 1, bs [91, 93], 0⟩) (by simp [fT]) (fun x y hx hy => df2 (t := ⟨[39, 91, 93, 39], 1, bs [91, 93], 0⟩) (by simp [gT2]) hx hy) h3 h4 h
theorem l03DMade : ∀ (d k : Nat), d ≤ 3 → d + 8 ≤ k → ∀ c, CurOk c → ∃ c' t, pQ_l03Made k c (d : Int) = some (c', t) ∧ CurOk c' ∧ DMade d t
  | _, 0, _, h2, _, _ => by omega
  | d, k + 1, h1, h2, c, h => by
    rw [pQ_l03Made]
    obtain ⟨c1, v, e, g1, g2, g3, _⟩ := l01Below h k 10
    have g3 := g3 (by decide)
    simp only [e, Option.bind_some]
    have leaf : ∀ u : Int, 0 ≤ u → u < 6 → ∃ c' t, pQ_l03Made_J1 k (pQ_l03Made k) (c1, v) (d : Int) u = some (c', t) ∧ CurOk c' ∧ DMade d t := by
      intro u u1 u2
      unfold pQ_l03Made_J1
      split
      · obtain ⟨c2, w, e2, g4, g5, g6, _⟩ := l01Below g1 k 4
        have g6 := g6 (by decide)
        simp only [e2, Option.bind_some, pQ_l03Var]
        refine ⟨_, _, rfl, g4, dvar d (by omega)⟩
      split
      · rw [if_pos (by decide)]
        obtain ⟨c2, s, e2, g4, g5⟩ := l01Pick g1 k (l := [(bs [97]), (bs [98]), (bs [91, 93]), (bs [43]), (bs [66, 105, 103]), (bs [120, 32, 121]).extract ((0 : Int) : Int).toNat (1 : Int).toNat, (bs [58, 45]), (bs [61, 46, 46])]) (by decide)
        simp only [e2, Option.bind_some, pQ_l03Atom]
        have hx : (bs [120, 32, 121]).extract ((0 : Int) : Int).toNat (1 : Int).toNat = bs [120] := by decide
        rw [hx] at g5
        exact ⟨_, _, rfl, g4, dname d g5⟩
      · rw [if_pos (by rw [decide_eq_true_eq]; exact u2)]
        obtain ⟨c2, s, e2, g4, g5⟩ := l01PickInt g1 k (l := [0, 1, -7, 999999999]) (by decide)
        simp only [e2, Option.bind_some, pQ_l03Num]
        exact ⟨_, _, rfl, g4, dint d g5⟩
    cases d with
    | zero =>
      rw [if_pos (by decide), if_pos (by decide)]
      have := Int.tmod_nonneg 6 g2
      have := Int.tmod_lt_of_pos v (b := 6) (by decide)
      exact leaf _ (by omega) (by omega)
    | succ d =>
      rw [if_neg (by rw [decide_eq_true_eq]; omega)]
      have hd : wr.i64 (((d + 1 : Nat) : Int) - 1) = (d : Int) := by rw [wr_i64 (by omega) (by omega)]; omega
      have hF := l03DMade d k (by omega) (by omega)
      by_cases u : v < 6
      · exact leaf v g2 u
      unfold pQ_l03Made_J1
      rw [if_neg (by rw [decide_eq_true_eq]; omega), if_neg (by rw [decide_eq_true_eq]; omega), if_neg (by rw [decide_eq_true_eq]; omega)]
      split
      · rw [hd]
        obtain ⟨c2, x, e2, g4, g5⟩ := hF c1 g1
        obtain ⟨c3, y, e3, g6, g7⟩ := hF c2 g4
        simp only [e2, e3, Option.bind_some, pQ_l03Two]
        exact ⟨_, _, rfl, g6, dpair g5 g7⟩
      split
      · obtain ⟨c1', s, e1, g1', gs⟩ := l01Pick g1 k (l := [(bs [43]), (bs [61]), (bs [44]), (bs [102]), (bs [59])]) (by decide)
        rw [hd]
        obtain ⟨c2, x, e2, g4, g5⟩ := hF c1' g1'
        obtain ⟨c3, y, e3, g6, g7⟩ := hF c2 g4
        simp only [e1, e2, e3, Option.bind_some, pQ_l03Two]
        exact ⟨_, _, rfl, g6, d7 gs g5 g7⟩
      · obtain ⟨c1', s, e1, g1', gs⟩ := l01Pick g1 k (l := [(bs [102]), (bs [103]), (bs [45]), (bs [91, 93])]) (by decide)
        simp only [e1, Option.bind_some]
        obtain ⟨t, c', e2, g4, l', rfl, g5, g6, g7, g8⟩ := l03DMade_L2 (k := k) hd hF (s := s) k 0 [] c1' (by omega) (by omega) g1' rfl (fun y hy => by cases hy)
        rw [show ((0 : Nat) : Int) = 0 from rfl] at e2
        rw [e2]
        exact ⟨_, _, rfl, g4, d8 gs (by omega) g5 g8⟩
theorem aNm {t : Tok} (h : t ∈ aT) : nmOk t.t := by
  simp only [aT, List.mem_cons, List.not_mem_nil, or_false] at h
  rcases h with rfl | rfl | rfl | rfl | rfl <;> exact names_ok (by simp)
theorem qNm {t : Tok} (h : t ∈ qT) : nmOk t.t := by
  simp only [qT, List.mem_cons, List.not_mem_nil, or_false] at h
  rcases h with rfl | rfl <;> exact names_ok (by simp)
theorem oNm {t : Tok} (h : t ∈ oT) : nmOk t.t := by
  simp only [oT, List.mem_cons, List.not_mem_nil, or_false] at h
  rcases h with rfl | rfl | rfl | rfl | rfl <;> exact names_ok (by simp)
theorem fNm {t : Tok} (h : t ∈ fT) : nmOk t.t := by
  simp only [fT, List.mem_cons, List.not_mem_nil, or_false] at h
  rcases h with rfl | rfl | rfl | rfl <;> exact names_ok (by simp)
theorem iR {t : Tok} (h : t ∈ iT) : -999999999 ≤ t.n ∧ t.n ≤ 999999999 := by
  simp only [iT, List.mem_cons, List.not_mem_nil, or_false] at h
  rcases h with rfl | rfl | rfl <;> decide
theorem made {f : Nat → Nat} (hf : ∀ n, f n ≤ 99999) : ∀ (d : D) (N : Nat), d.dep ≤ N → d.ok → MadeT N (d.mp f).g := by
  intro d
  induction d with
  | v n => intro N hd hok; have := hf n; exact MadeT.leaf N (one_var (by omega)) rfl
  | a t => intro N hd hok; exact atom_made (aNm hok) N
  | q t => intro N hd hok; exact atom_made (qNm hok) N
  | e => intro N hd hok; exact atom_made (names_ok (by simp)) N
  | i t => intro N hd hok; exact MadeT.leaf N (one_int (iR hok)) rfl
  | m => intro N hd hok; exact MadeT.leaf N (one_int (by omega)) rfl
  | p x y ihx ihy =>
    intro N hd hok
    simp only [D.dep] at hd
    obtain ⟨N, rfl⟩ : ∃ M, N = M + 1 := ⟨N - 1, by omega⟩
    exact MadeT.node (l := [(x.mp f).g, (y.mp f).g]) (names_ok (by simp)) (by simp) (by simp) (by
      intro z hz
      simp only [List.mem_cons, List.not_mem_nil, or_false] at hz
      rcases hz with rfl | rfl
      · exact ihx N (by omega) hok.1
      · exact ihy N (by omega) hok.2)
  | o t x y ihx ihy =>
    intro N hd hok
    simp only [D.dep] at hd
    obtain ⟨N, rfl⟩ : ∃ M, N = M + 1 := ⟨N - 1, by omega⟩
    exact MadeT.node (l := [(x.mp f).g, (y.mp f).g]) (oNm hok.1) (by simp) (by simp) (by
      intro z hz
      simp only [List.mem_cons, List.not_mem_nil, or_false] at hz
      rcases hz with rfl | rfl
      · exact ihx N (by omega) hok.2.1
      · exact ihy N (by omega) hok.2.2)
  | f1 t x ihx =>
    intro N hd hok
    simp only [D.dep] at hd
    obtain ⟨N, rfl⟩ : ∃ M, N = M + 1 := ⟨N - 1, by omega⟩
    exact MadeT.node (l := [(x.mp f).g]) (fNm hok.1) (by simp) (by simp) (by
      intro z hz
      simp only [List.mem_cons, List.not_mem_nil, or_false] at hz
      rcases hz with rfl
      exact ihx N (by omega) hok.2)
  | f2 t x y ihx ihy =>
    intro N hd hok
    simp only [D.dep] at hd
    obtain ⟨N, rfl⟩ : ∃ M, N = M + 1 := ⟨N - 1, by omega⟩
    exact MadeT.node (l := [(x.mp f).g, (y.mp f).g]) (fNm (gf hok.1)) (by simp) (by simp) (by
      intro z hz
      simp only [List.mem_cons, List.not_mem_nil, or_false] at hz
      rcases hz with rfl | rfl
      · exact ihx N (by omega) hok.2.1
      · exact ihy N (by omega) hok.2.2)
  | f3 t x y z ihx ihy ihz =>
    intro N hd hok
    simp only [D.dep] at hd
    obtain ⟨N, rfl⟩ : ∃ M, N = M + 1 := ⟨N - 1, by omega⟩
    exact MadeT.node (l := [(x.mp f).g, (y.mp f).g, (z.mp f).g]) (fNm hok.1) (by simp) (by simp) (by
      intro w hw
      simp only [List.mem_cons, List.not_mem_nil, or_false] at hw
      rcases hw with rfl | rfl | rfl
      · exact ihx N (by omega) hok.2.1
      · exact ihy N (by omega) hok.2.2.1
      · exact ihz N (by omega) hok.2.2.2)
theorem mp4 : ∀ d : D, d.ok → d.mp (fun n => n % 4) = d := by
  intro d
  induction d with
  | v n => intro h; have h : n < 4 := h; simp only [D.mp, Nat.mod_eq_of_lt h]
  | p x y ihx ihy => intro h; simp only [D.mp, ihx h.1, ihy h.2]
  | o t x y ihx ihy => intro h; simp only [D.mp, ihx h.2.1, ihy h.2.2]
  | f1 t x ihx => intro h; simp only [D.mp, ihx h.2]
  | f2 t x y ihx ihy => intro h; simp only [D.mp, ihx h.2.1, ihy h.2.2]
  | f3 t x y z ihx ihy ihz => intro h; simp only [D.mp, ihx h.2.1, ihy h.2.2.1, ihz h.2.2.2]
  | _ => intro h; rfl
theorem madeD {d : D} (hok : d.ok) (hd : d.dep ≤ 3) : MadeT 3 d.g := by
  have := made (f := fun n => n % 4) (fun n => by show n % 4 ≤ 99999; omega) d 3 hd hok
  rwa [mp4 d hok] at this
theorem aLn {t : Tok} (h : t ∈ aT) : t.b.length ≤ 9 := by
  simp only [aT, List.mem_cons, List.not_mem_nil, or_false] at h
  rcases h with rfl | rfl | rfl | rfl | rfl <;> decide
theorem qLn {t : Tok} (h : t ∈ qT) : t.b.length ≤ 2 := by
  simp only [qT, List.mem_cons, List.not_mem_nil, or_false] at h
  rcases h with rfl | rfl <;> decide
theorem iLn {t : Tok} (h : t ∈ iT) : t.b.length ≤ 9 := by
  simp only [iT, List.mem_cons, List.not_mem_nil, or_false] at h
  rcases h with rfl | rfl | rfl <;> decide
theorem oLn {t : Tok} (h : t ∈ oT) : t.b.length ≤ 4 := by
  simp only [oT, List.mem_cons, List.not_mem_nil, or_false] at h
  rcases h with rfl | rfl | rfl | rfl | rfl <;> decide
theorem fLn {t : Tok} (h : t ∈ fT) : t.b.length ≤ 4 := by
  simp only [fT, List.mem_cons, List.not_mem_nil, or_false] at h
  rcases h with rfl | rfl | rfl | rfl <;> decide
theorem lenD : ∀ (d : D) (N : Nat), d.dep ≤ N → d.ok → d.b.length + 4 ≤ 13 * 3 ^ N ∧ d.rb.length ≤ d.b.length + 1 ∧ d.sz ≤ 3 ^ N := by
  have one : ∀ N, 1 ≤ 3 ^ N := fun N => Nat.one_le_pow _ _ (by omega)
  intro d
  induction d with
  | v n =>
    intro N hd hok
    have := one N
    have h1 : (D.v n).b.length = 2 := rfl
    have h2 : (D.v n).rb.length = 3 := rfl
    simp only [D.sz]; omega
  | a t =>
    intro N hd hok
    have := one N; have := aLn hok
    have h1 : (D.a t).b.length = t.b.length := by rw [b_a]
    have h2 : (D.a t).rb.length = t.b.length + 1 := by rw [rb_other (by intro x y h; cases h) (by intro h; cases h), List.length_cons, h1]
    simp only [D.sz]; omega
  | q t =>
    intro N hd hok
    have := one N; have := qLn hok
    have h1 : (D.q t).b.length = t.b.length + 2 := by rw [b_q]; simp
    have h2 : (D.q t).rb.length = t.b.length + 3 := by rw [rb_other (by intro x y h; cases h) (by intro h; cases h), List.length_cons, h1]
    simp only [D.sz]; omega
  | e =>
    intro N hd hok
    have := one N
    have h1 : D.e.b.length = 2 := rfl
    have h2 : D.e.rb.length = 0 := rfl
    simp only [D.sz]; omega
  | i t =>
    intro N hd hok
    have := one N; have := iLn hok
    have h1 : (D.i t).b.length = t.b.length := by rw [b_i]
    have h2 : (D.i t).rb.length = t.b.length + 1 := by rw [rb_other (by intro x y h; cases h) (by intro h; cases h), List.length_cons, h1]
    simp only [D.sz]; omega
  | m =>
    intro N hd hok
    have := one N
    have h1 : D.m.b.length = 2 := rfl
    have h2 : D.m.rb.length = 3 := rfl
    simp only [D.sz]; omega
  | p x y ihx ihy =>
    intro N hd hok
    simp only [D.dep] at hd
    obtain ⟨N, rfl⟩ : ∃ M, N = M + 1 := ⟨N - 1, by omega⟩
    have a := ihx N (by omega) hok.1
    have b := ihy N (by omega) hok.2
    have h1 := congrArg List.length (b_p x y)
    have h2 := congrArg List.length (rb_p x y)
    simp only [List.length_append, List.length_cons, List.length_nil] at h1 h2
    have := one N
    rw [Nat.pow_succ]
    simp only [D.sz]; omega
  | o t x y ihx ihy =>
    intro N hd hok
    simp only [D.dep] at hd
    obtain ⟨N, rfl⟩ : ∃ M, N = M + 1 := ⟨N - 1, by omega⟩
    have a := ihx N (by omega) hok.2.1
    have b := ihy N (by omega) hok.2.2
    have h1 := congrArg List.length (b_o t x y)
    have h2 := congrArg List.length (rb_other (d := D.o t x y) (by intro x y h; cases h) (by intro h; cases h))
    simp only [List.length_append, List.length_cons, List.length_nil] at h1 h2
    have := one N; have := oLn hok.1
    rw [Nat.pow_succ]
    simp only [D.sz]; omega
  | f1 t x ihx =>
    intro N hd hok
    simp only [D.dep] at hd
    obtain ⟨N, rfl⟩ : ∃ M, N = M + 1 := ⟨N - 1, by omega⟩
    have a := ihx N (by omega) hok.2
    have h1 := congrArg List.length (b_f1 t x)
    have h2 := congrArg List.length (rb_other (d := D.f1 t x) (by intro x y h; cases h) (by intro h; cases h))
    simp only [List.length_append, List.length_cons, List.length_nil] at h1 h2
    have := one N; have := fLn hok.1
    rw [Nat.pow_succ]
    simp only [D.sz]; omega
  | f2 t x y ihx ihy =>
    intro N hd hok
    simp only [D.dep] at hd
    obtain ⟨N, rfl⟩ : ∃ M, N = M + 1 := ⟨N - 1, by omega⟩
    have a := ihx N (by omega) hok.2.1
    have b := ihy N (by omega) hok.2.2
    have h1 := congrArg List.length (b_f2 t x y)
    have h2 := congrArg List.length (rb_other (d := D.f2 t x y) (by intro x y h; cases h) (by intro h; cases h))
    simp only [List.length_append, List.length_cons, List.length_nil] at h1 h2
    have := one N; have := fLn (gf hok.1)
    rw [Nat.pow_succ]
    simp only [D.sz]; omega
  | f3 t x y z ihx ihy ihz =>
    intro N hd hok
    simp only [D.dep] at hd
    obtain ⟨N, rfl⟩ : ∃ M, N = M + 1 := ⟨N - 1, by omega⟩
    have a := ihx N (by omega) hok.2.1
    have b := ihy N (by omega) hok.2.2.1
    have c := ihz N (by omega) hok.2.2.2
    have h1 := congrArg List.length (b_f3 t x y z)
    have h2 := congrArg List.length (rb_other (d := D.f3 t x y z) (by intro x y h; cases h) (by intro h; cases h))
    simp only [List.length_append, List.length_cons, List.length_nil] at h1 h2
    have := one N; have := fLn hok.1
    rw [Nat.pow_succ]
    simp only [D.sz]; omega
theorem sgs_len (E : List UInt8) : ∀ (r : List (Option Tok)) (n : Nat), (sgs E n r).length ≤ r.length
  | [], n => by simp [sgs]
  | none :: r, n => by have := sgs_len E r (n + 1); rw [sgs, List.length_cons]; omega
  | some t :: r, n => by have := sgs_len E r (n + t.b.length); rw [sgs, List.length_cons, List.length_cons]; omega
theorem tok_len {E : List UInt8} : ∀ r : List (Option Tok), Good E r → r.length ≤ (bytes r).length
  | [], _ => by simp
  | none :: r, h => by have := tok_len (E := E) r h; rw [bytes, List.length_cons, List.length_cons]; omega
  | some t :: r, h => by
    have := tok_len (E := E) r h.2
    obtain ⟨⟨⟨c, tr, hc, _⟩, _⟩, _⟩ := h
    rw [bytes, List.length_append, List.length_cons, hc, List.length_cons]
    omega
theorem behind_L2 {k : Nat} {L : List GSign} (hL : L.length ≤ 3000) : ∀ (m j : Nat), L.length - j < m → j ≤ L.length → ∃ o, pQ_l06Behind_L2 k L m (j : Int) = some o
  | 0, j, h, _ => by omega
  | m + 1, j, h, h2 => by
    rw [pQ_l06Behind_L2]
    by_cases c : j < L.length
    · have w : wr.i64 (wr.i64 ((j : Int) + 1) - 1) = (j : Int) := wback (by omega)
      rw [if_pos (by simpa using c), w, at_lt c, obs, wsucc (by omega)]
      split
      · exact ⟨_, rfl⟩
      · exact behind_L2 hL m (j + 1) (by omega) (by omega)
    · rw [if_neg (by simpa using c)]
      exact ⟨_, rfl⟩
theorem behind {k : Nat} (hk : 3001 < k) {L : List GSign} (hL : L.length ≤ 3000) : ∃ c, pQ_l06Behind k L 0 = some c := by
  obtain ⟨o, e⟩ := behind_L2 (k := k) hL k 0 (by omega) (by omega)
  rw [show ((0 : Nat) : Int) = 0 from rfl] at e
  unfold pQ_l06Behind pQ_l06Behind_J1
  rw [if_neg (by decide), e, obs]
  cases o with
  | ret r => exact ⟨_, rfl⟩
  | done u => exact ⟨_, rfl⟩
theorem readTerm {k : Nat} (hk : 10000000 < k - maxLen) {d : D} (hok : d.ok) (hd : d.dep ≤ 3) : ∃ names, pQ_ReadTerm k (bs (d.b ++ [32, 46])) = some ((rn d []).1.g, names, true) := by
  have hM := maxLen_eq
  obtain ⟨l1, _, l3⟩ := lenD d 3 hd hok
  have l1 : d.b.length + 4 ≤ 13 * 27 := l1
  have l3 : d.sz ≤ 27 := l3
  have hg := (goodW d hok).1 [32, 46] ⟨32, [46], rfl, .inl rfl⟩
  have hS := signsOf (k := k) (by omega) hg (by have : (bytes d.w.1).length = d.b.length := rfl; omega)
  have hb : bytes d.w.1 = d.b := rfl
  rw [hb] at hS
  have n1 := tok_len d.w.1 hg
  rw [hb] at n1
  have n2 := sgs_len [32, 46] d.w.1 0
  generalize hE : GSign.mk 5 (bs [46]) 0 ((d.b.length + 1 : Nat) : Int) false = en at hS
  have hlen : (sgs [32, 46] 0 d.w.1 ++ [en]).length = (sgs [32, 46] 0 d.w.1).length + 1 := by simp
  obtain ⟨k', hk'⟩ : ∃ k', k = k' + 1 := ⟨k - 1, by omega⟩
  obtain ⟨j, h1, h2⟩ := prims 3 d hd hok k' (sgs [32, 46] 0 d.w.1 ++ [en]) 0 0 [32, 46] [en] 1 [] 1200 (by omega) (List.drop_zero ..) rfl (by omega) (by omega) (fun x hx => by cases hx) (by simp; omega) (by omega)
  obtain ⟨h3, h4⟩ := at0 h1
  have st : Stop en 1200 := by
    subst hE
    exact ⟨rfl, fun e => by have e : ((5 : Int) == 4 && sEq (bs [46]) (bs [44])) = true := e; cases e⟩
  have hT := rTerm (k := k') (by omega) (d := 0) (by omega) h2 h3 st
  rw [← hk'] at hT
  have hj : j + 1 = (sgs [32, 46] 0 d.w.1 ++ [en]).length := by
    have := congrArg List.length h1
    rw [List.length_drop, List.length_singleton] at this
    omega
  obtain ⟨c, hc⟩ := behind (k := k) (by omega) (L := sgs [32, 46] 0 d.w.1 ++ [en]) (by omega)
  have hR := rn_mp d [] (rn d []).2 (List.prefix_refl _)
  have hlow := rn_low d [] hok (fun x hx => by cases hx)
  have hl2 : (rn d []).2.length ≤ 27 := by have := hlow.2; simp at this; omega
  have mt : MadeT 3 (rn d []).1.g := by
    rw [hR]
    exact made (fun n => by have := List.idxOf_le_length (a := (n : Int)) (l := (rn d []).2); omega) d 3 hd hok
  have hn := mt.2
  have tOK := spec_TermOk (k := k) (x := (rn d []).1.g) (by omega) (gT_ok _ 1 (mt.1 1 (by omega)))
  rw [mt.right] at tOK
  refine ⟨(rn d []).2.map nm, ?_⟩
  unfold pQ_ReadTerm
  rw [hS, obs]
  unfold pQ_ReadSigns
  simp only
  have hin : pQ_l01In k 0 0 (wr.i64 (((sgs [32, 46] 0 d.w.1 ++ [en]).length : Int) - 1)) = some true := by
    unfold pQ_l01In
    rw [if_pos (by decide), hlen, wr_i64 (by omega) (by omega), decide_eq_true (by omega)]
  rw [hc, obs, hin, obs, if_neg (by decide)]
  have hT : pQ_l06Read_term k (GXr.mk (sgs [32, 46] 0 d.w.1 ++ [en]) 0 false 0 []) 1200 = some (St (sgs [32, 46] 0 d.w.1 ++ [en]) j ((0 : Nat) : Int) ((rn d []).2.map nm), (rn d []).1.g) := hT
  have hk5 : (en.gKind == 5) = true := by subst hE; rfl
  rw [hT, obs]
  simp only
  rw [rIs h3, obs, hk5, nil0, Bool.true_or, Bool.and_true, if_neg (by show ¬ ((!true) = true); decide), tOK, obs]
  unfold pQ_ReadSigns_J1
  rw [if_neg (by decide), if_pos (by show ([] : List ByteArray).length + ((rn d []).2.map nm).length ≤ _; rw [List.length_map, List.length_nil]; omega), obs]
  simp only
  rw [if_neg (by decide)]
  unfold pQ_ReadTerm_J1
  rw [atA, wsucc (by omega), hj, if_neg (by simp)]
  rfl
theorem variant {k : Nat} (hk : 10000000 < k - maxLen) {d : D} (hok : d.ok) (hd : d.dep ≤ 3) : pQ_Variant k (rn d []).1.g d.g = some true := by
  have hM := maxLen_eq
  have hR := rn_mp d [] (rn d []).2 (List.prefix_refl _)
  have hlow := rn_low d [] hok (fun x hx => by cases hx)
  have l3 : d.sz ≤ 27 := (lenD d 3 hd hok).2.2
  have hl2 : (rn d []).2.length ≤ 27 := by have := hlow.2; simp at this; omega
  have hU := rn_uniq d []
  generalize hF : (rn d []).2 = F at hR hl2 hU
  let g : Int → Int := fun x => ((F.idxOf x : Nat) : Int)
  have hm : ∀ x ∈ vsD d, x ∈ F := fun x hx => by rw [hU]; exact (mem_uniq _ _ _).2 (.inl hx)
  have hg : ∀ x y, x ∈ F → y ∈ F → g x = g y → x = y := fun x y hx hy h => idx_inj hx hy (by have h : ((F.idxOf x : Nat) : Int) = ((F.idxOf y : Nat) : Int) := h; omega)
  have mt : MadeT 3 (d.mp (fun n => F.idxOf (n : Int))).g := made (fun n => by have := List.idxOf_le_length (a := (n : Int)) (l := F); omega) d 3 hd hok
  have mt2 := madeD hok hd
  have n1 := mt.2
  have n2 := mt2.2
  have hA : uniq (vsD (d.mp (fun n => F.idxOf (n : Int)))) [] = F.map g := by
    rw [vsD_mp _ g (fun n => rfl)]
    have := uniq_map hg (vsD d) [] hm (fun x hx => by cases hx)
    rw [← hU] at this
    exact this
  unfold pQ_Variant pQ_VarsOf
  rw [hR, l03Vars k _ (by omega) (by omega) [] (by simp; omega), obs, obs, l03Vars k _ (by omega) (by omega) [] (by simp; omega), obs, obs, vs_g, vs_g, hA, ← hU,
    like (f := fun n => F.idxOf (n : Int)) (A := F.map g) (B := F) ?_ d hm k (by omega), obs]
  intro n k hk hn
  refine ⟨((F.idxOf (n : Int) : Nat) : Int), ?_, l03At (by omega) hk hn⟩
  have := l03At (k := k) (l := F.map g) (x := g (n : Int)) (by rw [List.length_map]; omega) hk (List.mem_map.2 ⟨_, hn, rfl⟩)
  rw [idx_map hg hn F (fun y hy => hy)] at this
  exact this
end Rd
theorem emptyText (n : Nat) : (match pQ_AtomText (n + 100) (bs []), pU_AtomText (n + 100) (bs []) with | some a, some b => sEq b a | _, _ => false) = true := by kernel_rfl
theorem drawnNm : ∀ s ∈ [(bs [97]), (bs [65]), (bs [43]), (bs [46]), (bs [91, 93]), (bs [120, 45, 121]), (bs [33]), (bs [44]), (bs [61, 46, 46]), (bs [97, 49, 95, 66]), (bs [49, 50])], nmOk s := by decide +kernel
theorem bothText {k : Nat} (hk : 3000 ≤ k) {s : ByteArray} (hs : s ∈ [(bs [97]), (bs []), (bs [65]), (bs [43]), (bs [46]), (bs [91, 93]), (bs [120, 45, 121]), (bs [33]), (bs [44]), (bs [61, 46, 46]), (bs [97, 49, 95, 66]), (bs [49, 50])]) : ∃ r q, pU_AtomText k s = some r ∧ pQ_AtomText k s = some q ∧ sEq r q = true := by
  by_cases c : s = bs []
  · subst c
    have h := emptyText (k - 100)
    rw [Nat.sub_add_cancel (by omega)] at h
    cases h1 : pQ_AtomText k (bs []) with
    | none => rw [h1] at h; cases h
    | some a =>
      cases h2 : pU_AtomText k (bs []) with
      | none => rw [h1, h2] at h; cases h
      | some b => rw [h1, h2] at h; exact ⟨b, a, rfl, rfl, h⟩
  · have hn : nmOk s := drawnNm s (by
      simp only [List.mem_cons, List.not_mem_nil, or_false] at hs ⊢
      rcases hs with h | h | h | h | h | h | h | h | h | h | h | h <;> first | exact absurd h c | simp [h])
    obtain ⟨r, h1, h2, _⟩ := atomText hk hn
    exact ⟨r, r, h2, h1, sEq_refl _⟩
theorem bothWrite {k : Nat} {x : GTerm} (hx : x.ok) (hn : nT x ≤ 200) (hk : 10000000 < k - maxLen) : ∃ s, pQ_WriteTerm k x = some s ∧ pU_WriteTerm k x = some s := by
  unfold pQ_WriteTerm pU_WriteTerm
  rw [spec_TermOk (by omega) hx, impl_TermOk (by omega) hx, obs, obs]
  cases ht : tOk x with
  | false => exact ⟨_, rfl, rfl⟩
  | true =>
    have hg := ht
    unfold tOk at hg
    simp only [Bool.and_eq_true, decide_eq_true_eq] at hg
    obtain ⟨s, f1, f2, _⟩ := writes 400 (Nat.le_refl _) k k (by omega) (by omega) x 1 hg.2 (by omega)
    rw [if_neg (by decide), if_neg (by decide), f1, f2, obs]
    exact ⟨s, rfl, rfl⟩
theorem law (a : List Int) (ha : okL (okI .u8) a) : ∃ k, plaws_FnWrites k a = some true := by
  obtain ⟨k, hk⟩ : ∃ k, 10995116277760 < k - maxLen := ⟨10995116277761 + maxLen, by rw [Nat.add_sub_cancel]; decide⟩
  refine ⟨k, ?_⟩
  have hM := maxLen_eq
  have hk2 : 10000000 < k - maxLen := by omega
  unfold plaws_FnWrites plaws_big
  rw [obs]
  by_cases hb : (a.length : Int) > 1048576
  · rw [if_pos (by simpa using hb)]
  rw [if_neg (by simpa using hb)]
  have hl : a.length ≤ 1048576 := by omega
  obtain ⟨c, e1, h1⟩ := l01New (k := k) hl (kz hk)
  obtain ⟨c1, t, e2, _, d, hok, hd, rfl⟩ := Rd.l03DMade 3 k (by omega) (by omega) c h1
  have mt := Rd.madeD hok hd
  have hok1 := gT_ok _ 1 (mt.1 1 (by omega))
  have hn := mt.2
  have tk := spec_TermOk (k := k) (x := d.g) (by omega) hok1
  rw [mt.right] at tk
  have e3 : pQ_DrawTerm k a = some d.g := by
    unfold pQ_DrawTerm
    rw [e1, obs]
    unfold pQ_l03Term
    rw [show ((3 : Nat) : Int) = 3 from rfl] at e2
    rw [e2]
    simp only [obs, tk]
    rfl
  have l1 : d.b.length + 4 ≤ 13 * 27 := (Rd.lenD d 3 hd hok).1
  have e4 : pQ_WriteTerm k d.g = some (bs d.b) := by
    unfold pQ_WriteTerm
    rw [tk, obs, if_neg (by decide), Rd.writesD 3 d hd hok k (by omega) (by omega), obs]
  obtain ⟨s, f1, f2⟩ := bothWrite (k := k) hok1 (by omega) hk2
  rw [e4] at f1
  cases f1
  obtain ⟨names, e5⟩ := Rd.readTerm hk2 hok hd
  obtain ⟨c2, t2, e6, _, h6⟩ := l03Any h1 (k := k) (by omega)
  obtain ⟨s2, g1, g2⟩ := bothWrite (k := k) h6.1 (by have := h6.2; omega) hk2
  obtain ⟨c3, nme, e7, _, h7⟩ := l01Pick h1 k (l := [(bs [97]), (bs []), (bs [65]), (bs [43]), (bs [46]), (bs [91, 93]), (bs [120, 45, 121]), (bs [33]), (bs [44]), (bs [61, 46, 46]), (bs [97, 49, 95, 66]), (bs [49, 50])]) (by decide)
  obtain ⟨r, q, q1, q2, q3⟩ := bothText (k := k) (by omega) h7
  have e8 : pQ_DrawWriteTerm k a = some t2 := by
    unfold pQ_DrawWriteTerm
    rw [e1, obs, e6, obs]
  have e9 : pQ_DrawAtomText k a = some nme := by
    unfold pQ_DrawAtomText
    rw [e1, obs, e7, obs]
  rw [e3, obs, f2, obs, if_pos (Rd.so (by rw [Rd.bsz, Rd.bsz]; simp only [List.length_cons, List.length_nil]; omega)), Rd.bs_app, e5, obs, e8, obs, e9, obs]
  simp only
  rw [if_pos trivial, Rd.variant hk2 hok hd, obs, if_pos rfl, g2, obs, g1, obs, if_pos (sEq_refl _), q1, obs, q2, obs, q3]
end FnWrites
end Go.Proofs.YtipjloclobcpkaaGreatDoor

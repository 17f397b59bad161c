/- The law, plainly. -/
import Derived.Test.YtkchjlmfonfjlaaGreatDoorFn
set_option linter.unusedVariables false
set_option linter.unusedSimpArgs false
namespace Go.Proofs.YtkchjlmfonfjlaaGreatDoor
open Go.RowKit Go.Bv
namespace FnExactReadsBack
mutual
/-- How many terms stand in a term. -/
def nT : GTerm → Nat
  | .mk _ _ _ l => nTs l
def nTs : List GTerm → Nat
  | [] => 0
  | x :: l => 1 + nT x + nTs l
end
theorem Zss : ∀ l : List GTerm, nTs l = nsum nT l
  | [] => by rw [nTs]; rfl
  | x :: l => by rw [nTs, nsum, Zss l]
theorem Z6p (x : GTerm) : nT x = nsum nT x.gKids := by
  cases x with
  | mk a b c l => rw [nT, Zss]; rfl

theorem Z92 {x : GTerm} (h : x.ok) : okL GTerm.ok x.gKids := by cases h with | mk a b c l h1 h2 h3 h4 h5 => exact ⟨h4, h5⟩
theorem Zlr {x : GTerm} (h : x.ok) : okFs x.gName := by cases h with | mk a b c l h1 h2 h3 h4 h5 => exact h2
theorem Zwk {x : GTerm} (h : x.ok) : okI .i64 x.gKind := by cases h with | mk a b c l h1 h2 h3 h4 h5 => exact h1
theorem Zwv {x : GTerm} (h : x.ok) : okI .i64 x.gNum := by cases h with | mk a b c l h1 h2 h3 h4 h5 => exact h3

theorem Za2 (a : Int) (b : ByteArray) (c : Int) (l : List GTerm) : (GTerm.mk a b c l).gKind = a := rfl
theorem Zbc (a : Int) (b : ByteArray) (c : Int) (l : List GTerm) : (GTerm.mk a b c l).gName = b := rfl
theorem Zdk (a : Int) (b : ByteArray) (c : Int) (l : List GTerm) : (GTerm.mk a b c l).gNum = c := rfl
theorem Z79 (a : Int) (b : ByteArray) (c : Int) (l : List GTerm) : (GTerm.mk a b c l).gKids = l := rfl
theorem Zp0 : ∀ N k : Nat,
    (∀ l, maxLen + 2 * nsum nT l + 1 < k → nsum nT l ≤ N → okL GTerm.ok l → ∀ b : Int, 0 ≤ b → b ≤ Small → ∃ r, Z3g k l b = some r ∧ -1 ≤ r ∧ (0 ≤ r → r + (nsum nT l : Int) ≤ b)) ∧
    (∀ x, maxLen + 2 * nT x + 2 < k → nT x ≤ N → x.ok → ∀ b : Int, 0 ≤ b → b ≤ Small → ∃ r, Z2s k x b = some r ∧ -1 ≤ r ∧ (0 ≤ r → r + (nT x : Int) ≤ b))
  | N, 0 => ⟨fun l h => by omega, fun x h => by omega⟩
  | N, k + 1 => by
    obtain ⟨ih1, ih2⟩ := Zp0 N k
    refine ⟨?_, ?_⟩
    · intro l hw hN hl b h0 h1
      exact sz2 (f := Z2s k) (L := Z5z k (Z2s k) (Z3g k) l) hl.1 (fun x hx b h0 h1 => by have := Z4t (n := nT) hx; exact ih2 x (by omega) (by omega) (hl.2 x hx) b h0 h1) (fun m b i => rfl) (by omega) b h0 h1
    · intro x hw hN hx b h0 h1
      have hn := Zlr hx
      unfold okFs at hn
      have h1' := h1
      unfold Small at h1'
      rw [Z15] at hn
      have hk := Z6p x
      unfold Z2s
      rw [Z2k (by omega) (by omega)]
      split
      · exact ⟨_, rfl, by omega, by omega⟩
      · rename_i h
        simp at h
        obtain ⟨r, h2, h3, h4⟩ := ih1 x.gKids (by omega) (by omega) (Z92 hx) (b - (x.gName.size : Int)) (by omega) (by unfold Small; omega)
        rw [h2]
        simp only [Option.bind_some]
        split
        · exact ⟨_, rfl, by omega, by omega⟩
        · exact ⟨_, rfl, h3, by omega⟩
theorem Zwf {k : Nat} {l : List GTerm} (hw : maxLen + 2 * nsum nT l + 2 < k) (hl : okL GTerm.ok l) (b : Int) (h0 : 0 ≤ b) (h1 : b ≤ Small) : ∃ r, Z3g k l b = some r ∧ -1 ≤ r ∧ (0 ≤ r → r + (nsum nT l : Int) ≤ b) :=
  (Zp0 (nsum nT l) k).1 l (by omega) (Nat.le_refl _) hl b h0 h1
theorem Zup {k : Nat} {x : GTerm} (hw : maxLen + 2 * nT x + 2 < k) (hx : x.ok) (b : Int) (h0 : 0 ≤ b) (h1 : b ≤ Small) : ∃ r, Z2s k x b = some r ∧ -1 ≤ r ∧ (0 ≤ r → r + (nT x : Int) ≤ b) :=
  (Zp0 (nT x) k).2 x hw (Nat.le_refl _) hx b h0 h1

theorem Zoy : ∀ k : Nat, (∀ l, maxLen + 2 * nsum nT l + 1 < k → nsum nT l ≤ 1048576 → Z30 k l = some l) ∧ (∀ x, maxLen + 2 * nT x + 2 < k → nT x ≤ 1048576 → Z29 k x = some x)
  | 0 => ⟨fun l h => by omega, fun x h => by omega⟩
  | k + 1 => by
    obtain ⟨ih1, ih2⟩ := Zoy k
    refine ⟨?_, ?_⟩
    · intro l hw hl
      have := Z81 nT l
      have h := to2 (f := Z29 k) (L := Z5y k (Z29 k) (Z30 k) l) (by omega) (fun x hx => by have := Z4t (n := nT) hx; exact ih2 x (by omega) (by omega)) (fun m i o => rfl) (k := k) (by omega) (GTerm.mk 0 (bs []) 0 [])
      unfold Z30
      rw [if_pos h.1, h.2]; rfl
    · intro x hw hx
      have hk := Z6p x
      unfold Z29
      rw [ih1 x.gKids (by omega) (by omega)]
      cases x; rfl
theorem Zwe {k : Nat} {l : List GTerm} (hw : maxLen + 2 * nsum nT l + 2 < k) (hl : nsum nT l ≤ 1048576) : Z30 k l = some l := (Zoy k).1 l (by omega) hl
theorem Zum {k : Nat} {x : GTerm} (hw : maxLen + 2 * nT x + 2 < k) (hl : nT x ≤ 1048576) : Z29 k x = some x := (Zoy k).2 x hw hl

theorem Zqp : ∀ k : Nat, (∀ l, maxLen + 2 * nsum nT l + 1 < k → nsum nT l ≤ Huge → Z3h k l l = some true) ∧ (∀ x, maxLen + 2 * nT x + 2 < k → nT x ≤ Huge → Z2t k x x = some true)
  | 0 => ⟨fun l h => by omega, fun x h => by omega⟩
  | k + 1 => by
    obtain ⟨ih1, ih2⟩ := Zqp k
    refine ⟨?_, ?_⟩
    · intro l hw hl
      have := Z81 nT l
      exact eq2 (f := Z2t k) (L := Z60 k (Z2t k) (Z3h k) l l) (by omega) (fun x hx => by have := Z4t (n := nT) hx; exact ih2 x (by omega) (by omega)) (fun m i => rfl) (by omega)
    · intro x hw hx
      have hk := Z6p x
      unfold Z2t
      rw [ih1 x.gKids (by omega) (by omega)]
      simp [Zi7]
theorem Zwt {k : Nat} {l : List GTerm} (hw : maxLen + 2 * nsum nT l + 2 < k) (hl : nsum nT l ≤ Huge) : Z3h k l l = some true := (Zqp k).1 l (by omega) hl
theorem Zw3 {k : Nat} {x : GTerm} (hw : maxLen + 2 * nT x + 2 < k) (hl : nT x ≤ Huge) : Z2t k x x = some true := (Zqp k).2 x hw hl

def inR (x a b : Int) : Bool := decide (a ≤ x ∧ x ≤ b)
theorem Zvq {x a b : Int} (h : a ≤ x ∧ x ≤ b) : inR x a b = true := decide_eq_true h
theorem Zvr {x a b : Int} (h : ¬ (a ≤ x ∧ x ≤ b)) : inR x a b = false := decide_eq_false h

theorem Zs4 (k : Nat) (x a b : Int) : Z7y k x a b = some (inR x a b) := by
  unfold Z7y inR
  by_cases h : a ≤ x
  · rw [if_pos (by simpa using h)]; simp [h]
  · rw [if_neg (by simpa using h)]; simp [h]

theorem Zes (k : Nat) (x a b : Int) : Z4w k x a b = some (inR x a b) := by
  unfold Z4w inR
  by_cases h : a ≤ x
  · rw [if_pos (by simpa using h)]; simp [h]
  · rw [if_neg (by simpa using h)]; simp [h]
theorem Zuc (s : ByteArray) (i : Int) : 0 ≤ bt s i ∧ bt s i ≤ 255 := by
  unfold bt
  have : ((s[i.toNat]?).getD 0).toNat < 256 := ((s[i.toNat]?).getD 0).toNat_lt
  omega
def gb (s : ByteArray) (i : Nat) : Prop := 33 ≤ bt s (i : Int) ∧ bt s (i : Int) ≤ 126 ∧ bt s (i : Int) ≠ 39 ∧ bt s (i : Int) ≠ 34
instance (s : ByteArray) (i : Nat) : Decidable (gb s i) := by unfold gb; infer_instance
def nmOk (s : ByteArray) : Prop := (∀ i, i < s.size → gb s i) ∧ 1 ≤ s.size ∧ s.size ≤ 20
instance (s : ByteArray) : Decidable (nmOk s) := by unfold nmOk; infer_instance

theorem Zhj (k : Nat) (s : ByteArray) (hs : s.size ≤ maxLen) : ∀ (m n : Nat), n ≤ s.size → s.size - n < m →
    ∃ o, Z6m k s m (n : Int) = some o ∧ (match o with | .ret r => r = false ∧ ∃ i, i < s.size ∧ ¬ gb s i | .done _ => ∀ i, n ≤ i → i < s.size → gb s i)
  | 0, n, h1, h2 => by omega
  | m + 1, n, h1, h2 => by
    unfold Z6m
    by_cases hlt : n < s.size
    · have hg : 0 ≤ (n : Int) ∧ (n : Int).toNat < s.size := ⟨by omega, by simpa using hlt⟩
      have bad : ∀ b : Prop, (gb s n → ¬ b) → b → ∃ o, (some (Out.ret false) : Option (Out Bool Unit)) = some o ∧ (match o with | .ret r => r = false ∧ ∃ i, i < s.size ∧ ¬ gb s i | .done _ => ∀ i, n ≤ i → i < s.size → gb s i) :=
        fun b h hb => ⟨_, rfl, rfl, n, hlt, fun h' => h h' hb⟩
      rw [if_pos (by simpa using hlt), if_pos hg]
      by_cases c1 : bt s (n : Int) < 33
      · rw [if_pos (by simpa using c1)]; exact bad _ (fun h => by have := h.1; omega) c1
      rw [if_neg (by simpa using c1), if_pos hg]
      by_cases c2 : bt s (n : Int) > 126
      · rw [if_pos (by simpa using c2)]; exact bad _ (fun h => by have := h.2.1; omega) c2
      rw [if_neg (by simpa using c2), if_pos hg]
      by_cases c3 : bt s (n : Int) = 39
      · rw [if_pos (by simpa using c3)]; exact bad _ (fun h => h.2.2.1) c3
      rw [if_neg (by simpa using c3), if_pos hg]
      by_cases c4 : bt s (n : Int) = 34
      · rw [if_pos (by simpa using c4)]; exact bad _ (fun h => h.2.2.2) c4
      rw [if_neg (by simpa using c4), Z7s hlt hs]
      obtain ⟨o, h3, h4⟩ := Zhj k s hs m (n + 1) (by omega) (by omega)
      refine ⟨o, h3, ?_⟩
      cases o with
      | ret r => exact h4
      | done u =>
        intro i hi1 hi2
        by_cases e : i = n
        · subst e; exact ⟨by omega, by omega, c3, c4⟩
        · exact h4 i (by omega) hi2
    · rw [if_neg (by simpa using hlt)]
      exact ⟨_, rfl, fun i h3 h4 => by omega⟩

theorem Zjw (k : Nat) (s : ByteArray) (hs : s.size ≤ maxLen) : ∀ (m n : Nat), n ≤ s.size → s.size - n < m →
    ∃ o, Z7b k s m (n : Int) = some o ∧ (match o with | .ret r => r = false ∧ ∃ i, i < s.size ∧ ¬ gb s i | .done _ => ∀ i, n ≤ i → i < s.size → gb s i)
  | 0, n, h1, h2 => by omega
  | m + 1, n, h1, h2 => by
    unfold Z7b
    by_cases hlt : n < s.size
    · have hg : 0 ≤ (n : Int) ∧ (n : Int).toNat < s.size := ⟨by omega, by simpa using hlt⟩
      have hb := Zuc s (n : Int)
      have bad : ∀ b : Prop, (gb s n → ¬ b) → b → ∃ o, (some (Out.ret false) : Option (Out Bool Unit)) = some o ∧ (match o with | .ret r => r = false ∧ ∃ i, i < s.size ∧ ¬ gb s i | .done _ => ∀ i, n ≤ i → i < s.size → gb s i) :=
        fun b h hb => ⟨_, rfl, rfl, n, hlt, fun h' => h h' hb⟩
      rw [if_pos (by simpa using hlt), if_pos hg, Zes, Z2k (by omega) (by omega)]
      simp only [Option.bind_some]
      by_cases c1 : 33 ≤ bt s (n : Int) ∧ bt s (n : Int) ≤ 126
      · rw [Zvq c1, if_neg (by simp), if_pos hg]
        by_cases c3 : bt s (n : Int) = 39
        · rw [if_pos (by simpa using c3)]; exact bad _ (fun h => h.2.2.1) c3
        rw [if_neg (by simpa using c3), if_pos hg]
        by_cases c4 : bt s (n : Int) = 34
        · rw [if_pos (by simpa using c4)]; exact bad _ (fun h => h.2.2.2) c4
        rw [if_neg (by simpa using c4), Z7s hlt hs]
        obtain ⟨o, h3, h4⟩ := Zjw k s hs m (n + 1) (by omega) (by omega)
        refine ⟨o, h3, ?_⟩
        cases o with
        | ret r => exact h4
        | done u =>
          intro i hi1 hi2
          by_cases e : i = n
          · subst e; exact ⟨by omega, by omega, c3, c4⟩
          · exact h4 i (by omega) hi2
      · rw [Zvr c1, if_pos (by simp)]
        exact bad _ (fun h => by have := h.1; have := h.2.1; omega) c1
    · rw [if_neg (by simpa using hlt)]
      exact ⟨_, rfl, fun i h3 h4 => by omega⟩

theorem Zvc {s : ByteArray} (h : ∀ i, 0 ≤ i → i < s.size → gb s i) : inR (s.size : Int) 1 20 = decide (nmOk s) := by
  unfold inR
  rw [decide_eq_decide]
  unfold nmOk
  constructor
  · intro h1; exact ⟨fun i hi => h i (by omega) hi, by omega, by omega⟩
  · intro h1; obtain ⟨_, h5, h6⟩ := h1; omega

theorem Zq9 {k : Nat} {s : ByteArray} (hs : s.size ≤ maxLen) (hk : maxLen < k) : Z70 k s = some (decide (nmOk s)) := by
  unfold Z70
  obtain ⟨o, h1, h2⟩ := Zhj k s hs k 0 (by omega) (by omega)
  rw [show ((0 : Nat) : Int) = 0 from rfl] at h1
  rw [h1]
  cases o with
  | ret r =>
    obtain ⟨rfl, i, h3, h4⟩ := h2
    have : ¬ nmOk s := fun h => h4 (h.1 i h3)
    simp [this]
  | done u =>
    simp only [Option.bind_some]
    rw [Zs4]
    simp only [Option.bind_some]
    rw [Zvc h2]

theorem Zvd {k : Nat} {s : ByteArray} (hs : s.size ≤ maxLen) (hk : maxLen < k) : Z9b k s = some (decide (nmOk s)) := by
  unfold Z9b
  obtain ⟨o, h1, h2⟩ := Zjw k s hs k 0 (by omega) (by omega)
  rw [show ((0 : Nat) : Int) = 0 from rfl] at h1
  rw [h1]
  cases o with
  | ret r =>
    obtain ⟨rfl, i, h3, h4⟩ := h2
    have : ¬ nmOk s := fun h => h4 (h.1 i h3)
    simp [this]
  | done u =>
    simp only [Option.bind_some]
    rw [Zes]
    simp only [Option.bind_some]
    rw [Zvc h2]

def one (x : GTerm) : Bool :=
  if x.gKind = 1 then inR x.gNum 0 99999 && (sEq x.gName (bs []) && ((x.gKids.length : Int) == 0))
  else if x.gKind = 2 then decide (nmOk x.gName) && ((x.gNum == 0) && ((x.gKids.length : Int) == 0))
  else if x.gKind = 3 then inR x.gNum (-999999999) 999999999 && (sEq x.gName (bs []) && ((x.gKids.length : Int) == 0))
  else if x.gKind = 4 then decide (nmOk x.gName) && ((x.gNum == 0) && inR (x.gKids.length : Int) 1 5)
  else false
mutual
def gT : Int → GTerm → Bool
  | d, .mk a b c l => decide (d ≤ 40) && (one (.mk a b c l) && gTs (d + 1) l)
def gTs : Int → List GTerm → Bool
  | _, [] => true
  | d, x :: l => gT d x && gTs d l
end
theorem Zoc (d : Int) (x : GTerm) : gT d x = (decide (d ≤ 40) && (one x && gTs (d + 1) x.gKids)) := by
  cases x with
  | mk a b c l => rw [gT]; rfl
theorem Znm {d : Int} {l : List GTerm} {j : Nat} (h : j < l.length) : gTs d (l.drop j) = (gT d l[j] && gTs d (l.drop (j + 1))) := by
  rw [List.drop_eq_getElem_cons h, gTs]
theorem Zfj {l : List GTerm} {j : Nat} (h : j < l.length) : nsum nT (l.drop j) = 1 + nT l[j] + nsum nT (l.drop (j + 1)) := by
  rw [List.drop_eq_getElem_cons h, nsum]

theorem Zvi {k : Nat} {x : GTerm} (hx : x.ok) (hk : maxLen < k) : Zap k x = some (one x) := by
  have hn := Zq9 (k := k) (s := x.gName) (Zlr hx) hk
  unfold Zap one
  simp only [hn, Zs4, Option.bind_some]
  by_cases c1 : x.gKind = 1
  · rw [if_pos (by simpa using c1), if_pos c1]
    cases inR x.gNum 0 99999 <;> cases sEq x.gName (bs []) <;> simp
  rw [if_neg (by simpa using c1), if_neg c1]
  by_cases c2 : x.gKind = 2
  · rw [if_pos (by simpa using c2), if_pos c2]
    cases decide (nmOk x.gName) <;> by_cases h : x.gNum = 0 <;> simp [h]
  rw [if_neg (by simpa using c2), if_neg c2]
  by_cases c3 : x.gKind = 3
  · rw [if_pos (by simpa using c3), if_pos c3]
    cases inR x.gNum (-999999999) 999999999 <;> cases sEq x.gName (bs []) <;> simp
  rw [if_neg (by simpa using c3), if_neg c3]
  by_cases c4 : x.gKind = 4
  · rw [if_pos (by simpa using c4), if_pos c4]
    cases decide (nmOk x.gName) <;> by_cases h : x.gNum = 0 <;> simp [h]
  · rw [if_neg (by simpa using c4), if_neg c4]

def Zq7 (v left : Int) (n : Nat) : Prop := -1 ≤ v ∧ (0 ≤ v ↔ (n : Int) ≤ left) ∧ (0 ≤ v → v = left - (n : Int))
theorem Zfr {k : Nat} {x : GTerm} {f : GTerm → Int → Option Int} (hx : x.gKids.length ≤ maxLen) (hf : ∀ y ∈ x.gKids, ∀ b, 0 ≤ b → b ≤ 401 → ∃ v, f y b = some v ∧ Zq7 v b (1 + nT y)) :
    ∀ (m j : Nat) (b : Int), j ≤ x.gKids.length → x.gKids.length - j < m → -1 ≤ b → b ≤ 401 →
      ∃ v, Z5u k f x m b (j : Int) = some (.done v) ∧ ((b = -1 ∧ v = -1) ∨ (0 ≤ b ∧ Zq7 v b (nsum nT (x.gKids.drop j))))
  | 0, j, b, h1, h2, h3, h4 => by omega
  | m + 1, j, b, h1, h2, h3, h4 => by
    unfold Z5u
    by_cases hlt : j < x.gKids.length
    · rw [if_pos (by simpa using hlt)]
      by_cases hb : 0 ≤ b
      · rw [if_pos (by simpa using hb), Z7r hlt]
        simp only [Option.bind_some]
        obtain ⟨v, e, g1, g2, g3⟩ := hf _ (List.getElem_mem hlt) b hb h4
        rw [e]
        simp only [Option.bind_some]
        rw [Z7s hlt hx]
        obtain ⟨u, e2, h5⟩ := Zfr (k := k) hx hf m (j + 1) v (by omega) (by omega) g1 (by by_cases h : 0 ≤ v <;> omega)
        refine ⟨u, e2, .inr ⟨hb, ?_⟩⟩
        rw [Zfj hlt]
        rcases h5 with ⟨rfl, rfl⟩ | ⟨h6, h7, h8, h9⟩
        · refine ⟨by omega, ⟨fun h => by omega, fun h => by have := g2.2 (by omega); omega⟩, fun h => by omega⟩
        · have := g3 h6
          have := g2.1 h6
          refine ⟨h7, ⟨fun h => by have := h8.1 h; omega, fun h => h8.2 (by omega)⟩, fun h => by have := h9 h; omega⟩
      · rw [if_neg (by simpa using hb)]
        exact ⟨b, rfl, .inl ⟨by omega, by omega⟩⟩
    · rw [if_neg (by simpa using hlt)]
      rw [List.drop_of_length_le (by omega)]
      by_cases hb : 0 ≤ b
      · exact ⟨b, rfl, .inr ⟨hb, h3, by simp only [nsum]; omega, fun _ => by simp only [nsum]; omega⟩⟩
      · exact ⟨b, rfl, .inl ⟨by omega, by omega⟩⟩

theorem Znh : ∀ (k : Nat) (x : GTerm), maxLen + 2 * nT x + 2 < k → x.ok → ∀ b : Int, 0 ≤ b → b ≤ 401 → ∃ v, Z4o k x b = some v ∧ Zq7 v b (1 + nT x)
  | 0, x, h => by omega
  | k + 1, x, hw => by
    intro hx b h0 h1
    have hn := Z6p x
    unfold Z4o
    rw [Z2k (by omega) (by omega)]
    obtain ⟨v, e, h⟩ := Zfr (k := k) (x := x) (Z92 hx).1 (fun y hy b h0 h1 => by have := Z4t (n := nT) hy; exact Znh k y (by omega) ((Z92 hx).2 y hy) b h0 h1) k 0 (b - 1) (by omega) (by have := (Z92 hx).1; omega) (by omega) (by omega)
    rw [show ((0 : Nat) : Int) = 0 from rfl] at e
    rw [e]
    refine ⟨v, rfl, ?_⟩
    rw [List.drop_zero, ← hn] at h
    rcases h with ⟨h2, rfl⟩ | ⟨h2, h3, h4, h5⟩
    · exact ⟨by omega, ⟨fun h => by omega, fun h => by omega⟩, fun h => by omega⟩
    · exact ⟨h3, ⟨fun h => by have := h4.1 h; omega, fun h => h4.2 (by omega)⟩, fun h => by have := h5 h; omega⟩

theorem Zfq {k : Nat} {x : GTerm} {d : Int} {f : GTerm → Int → Option Bool} (hx : x.gKids.length ≤ maxLen) (hd : wr.i64 (d + 1) = d + 1) (hf : ∀ y ∈ x.gKids, f y (d + 1) = some (gT (d + 1) y)) :
    ∀ (m j : Nat), j ≤ x.gKids.length → x.gKids.length - j < m → Z5t k f x d m (j : Int) = some (if gTs (d + 1) (x.gKids.drop j) then .done () else .ret false)
  | 0, j, h1, h2 => by omega
  | m + 1, j, h1, h2 => by
    unfold Z5t
    by_cases hlt : j < x.gKids.length
    · rw [if_pos (by simpa using hlt), Z7r hlt, hd]
      simp only [Option.bind_some, hf _ (List.getElem_mem hlt)]
      rw [Znm hlt]
      cases hg : gT (d + 1) x.gKids[j] with
      | false => simp
      | true =>
        rw [if_neg (by simp), Z7s hlt hx, Zfq hx hd hf m (j + 1) (by omega) (by omega)]
        simp
    · rw [if_neg (by simpa using hlt), List.drop_of_length_le (by omega), gTs]; rfl

theorem Zng : ∀ (k : Nat) (x : GTerm), maxLen + 2 * nT x + 2 < k → x.ok → ∀ d : Int, 0 ≤ d → d ≤ 41 → Z4n k x d = some (gT d x)
  | 0, x, h => by omega
  | k + 1, x, hw => by
    intro hx d h0 h1
    have hn := Z6p x
    unfold Z4n
    rw [Zoc]
    by_cases hd : d > 40
    · rw [if_pos (by simpa using hd)]; simp; omega
    · rw [if_neg (by simpa using hd), Zvi hx (by omega)]
      simp only [Option.bind_some]
      cases h1 : one x with
      | false => simp
      | true =>
        rw [if_neg (by simp)]
        have e := Zfq (k := k) (x := x) (d := d) (Z92 hx).1 (Z2k (by omega) (by omega)) (fun y hy => by have := Z4t (n := nT) hy; exact Zng k y (by omega) ((Z92 hx).2 y hy) (d + 1) (by omega) (by omega)) k 0 (by omega) (by have := (Z92 hx).1; omega)
        rw [show ((0 : Nat) : Int) = 0 from rfl, List.drop_zero] at e
        rw [e]
        cases gTs (d + 1) x.gKids <;> simp <;> omega

def tOk (x : GTerm) : Bool := decide (1 + nT x ≤ 400) && gT 1 x
theorem Zbv {k : Nat} {x : GTerm} (hw : maxLen + 2 * nT x + 2 < k) (hx : x.ok) : Z8e k x = some (tOk x) := by
  unfold Z8e tOk
  obtain ⟨v, e, h1, h2, h3⟩ := Znh k x hw hx 400 (by omega) (by omega)
  rw [e]
  simp only [Option.bind_some]
  by_cases hv : 0 ≤ v
  · rw [if_pos (by simpa using hv), Zng k x hw hx 1 (by omega) (by omega)]
    have := h2.1 hv
    simp; omega
  · rw [if_neg (by simpa using hv)]
    have : ¬ (1 + nT x ≤ 400) := fun h => hv (h2.2 (by omega))
    simp [this]

def cnt (d : Int) (x : GTerm) : Int := if gT d x && decide (1 + nT x ≤ 400) then ((1 + nT x : Nat) : Int) else 401
theorem Zmv {k : Nat} {x : GTerm} {d : Int} {f : GTerm → Int → Option Int} (hx : x.gKids.length ≤ maxLen) (hd : wr.i64 (d + 1) = d + 1) (hf : ∀ y ∈ x.gKids, f y (d + 1) = some (cnt (d + 1) y)) :
    ∀ (m j : Nat) (b : Int), j ≤ x.gKids.length → x.gKids.length - j < m → 1 ≤ b → b ≤ 400 →
      Z87 k f x d m b (j : Int) = some (if gTs (d + 1) (x.gKids.drop j) && decide (b + (nsum nT (x.gKids.drop j) : Int) ≤ 400) then .done (b + (nsum nT (x.gKids.drop j) : Int)) else .ret 401)
  | 0, j, b, h1, h2, h3, h4 => by omega
  | m + 1, j, b, h1, h2, h3, h4 => by
    unfold Z87
    by_cases hlt : j < x.gKids.length
    · rw [if_pos (by simpa using hlt), Z7r hlt, hd]
      simp only [Option.bind_some, hf _ (List.getElem_mem hlt)]
      rw [Znm hlt, Zfj hlt, Z7s hlt hx]
      by_cases hg : gT (d + 1) x.gKids[j] = true ∧ 1 + nT x.gKids[j] ≤ 400
      · have hc : cnt (d + 1) x.gKids[j] = ((1 + nT x.gKids[j] : Nat) : Int) := by unfold cnt; rw [if_pos (by simpa using hg)]
        rw [hc, Z2k (by omega) (by omega)]
        by_cases hs : b + ((1 + nT x.gKids[j] : Nat) : Int) > 400
        · rw [if_pos (by simpa using hs), if_neg]
          simp only [Bool.and_eq_true, decide_eq_true_eq, not_and]
          intro _; omega
        · rw [if_neg (by simpa using hs), Zmv hx hd hf m (j + 1) _ (by omega) (by omega) (by omega) (by omega), hg.1, Bool.true_and]
          have e1 : b + ((1 + nT x.gKids[j] : Nat) : Int) + (nsum nT (x.gKids.drop (j + 1)) : Int) = b + ((1 + nT x.gKids[j] + nsum nT (x.gKids.drop (j + 1)) : Nat) : Int) := by omega
          rw [e1]
      · have hc : cnt (d + 1) x.gKids[j] = 401 := by unfold cnt; rw [if_neg (by simpa using hg)]
        rw [hc, Z2k (by omega) (by omega), if_pos (by simp; omega), if_neg]
        simp only [Bool.and_eq_true, decide_eq_true_eq, not_and]
        intro h5
        have h6 : ¬ (1 + nT x.gKids[j] ≤ 400) := fun h => hg ⟨h5.1, h⟩
        omega
    · rw [if_neg (by simpa using hlt), List.drop_of_length_le (by omega), gTs, if_pos (by simp only [nsum]; simp; omega)]
      simp [nsum]

theorem Zut : ∀ (k : Nat) (x : GTerm), maxLen + 2 * nT x + 2 < k → x.ok → ∀ d : Int, 0 ≤ d → d ≤ 41 → Z4l k x d = some (cnt d x)
  | 0, x, h => by omega
  | k + 1, x, hw => by
    intro hx d h0 h1
    have hn := Z6p x
    have hnm := Zvd (k := k) (s := x.gName) (Zlr hx) (by omega)
    have hJ : d ≤ 40 → one x = true → Z57 k (Z4l k) x d = some (cnt d x) := by
      intro hd h1
      unfold Z57 cnt
      have e := Zmv (k := k) (x := x) (d := d) (Z92 hx).1 (Z2k (by omega) (by omega)) (fun y hy => by have := Z4t (n := nT) hy; exact Zut k y (by omega) ((Z92 hx).2 y hy) (d + 1) (by omega) (by omega)) k 0 1 (by omega) (by have := (Z92 hx).1; omega) (by omega) (by omega)
      rw [show ((0 : Nat) : Int) = 0 from rfl, List.drop_zero, ← hn] at e
      rw [e, Zoc, h1, Bool.true_and, decide_eq_true hd, Bool.true_and]
      have e2 : decide (1 + (nT x : Int) ≤ 400) = decide (1 + nT x ≤ 400) := by rw [decide_eq_decide]; omega
      rw [e2]
      split
      · simp
      · simp
    have hbad : one x = false → (401 : Int) = cnt d x := by
      intro h1; unfold cnt; rw [Zoc, h1]; simp
    unfold Z4l
    by_cases hd : d > 40
    · rw [if_pos (by simpa using hd)]
      unfold cnt; rw [Zoc, decide_eq_false (show ¬ d ≤ 40 by omega)]; simp
    have hJ' := hJ (by omega)
    rw [if_neg (by simpa using hd)]
    simp only [hnm, Zes, Option.bind_some]
    generalize Z57 k (Z4l k) x d = J at hJ' ⊢
    generalize cnt d x = C at hJ' hbad ⊢
    have hlen : ((x.gKids.length : Int) > 0) ↔ ¬ ((x.gKids.length : Int) = 0) := by omega
    unfold one at hJ' hbad
    by_cases c1 : x.gKind = 1
    · rw [if_pos (by simpa using c1)]
      rw [if_pos c1] at hJ' hbad
      cases h2 : inR x.gNum 0 99999 <;> cases h3 : sEq x.gName (bs []) <;> by_cases h4 : (x.gKids.length : Int) = 0 <;> simp_all
    rw [if_neg (by simpa using c1)]
    rw [if_neg c1] at hJ' hbad
    by_cases c2 : x.gKind = 2
    · rw [if_pos (by simpa using c2)]
      rw [if_pos c2] at hJ' hbad
      cases h2 : decide (nmOk x.gName) <;> by_cases h3 : x.gNum = 0 <;> by_cases h4 : (x.gKids.length : Int) = 0 <;> simp_all
    rw [if_neg (by simpa using c2)]
    rw [if_neg c2] at hJ' hbad
    by_cases c3 : x.gKind = 3
    · rw [if_pos (by simpa using c3)]
      rw [if_pos c3] at hJ' hbad
      cases h2 : inR x.gNum (-999999999) 999999999 <;> cases h3 : sEq x.gName (bs []) <;> by_cases h4 : (x.gKids.length : Int) = 0 <;> simp_all
    rw [if_neg (by simpa using c3)]
    rw [if_neg c3] at hJ' hbad
    by_cases c4 : x.gKind = 4
    · rw [if_pos (by simpa using c4)]
      rw [if_pos c4] at hJ' hbad
      cases h2 : decide (nmOk x.gName) <;> by_cases h3 : x.gNum = 0 <;> cases h4 : inR (x.gKids.length : Int) 1 5 <;> simp_all
    · rw [if_neg (by simpa using c4)]
      rw [if_neg c4] at hbad
      rw [hbad rfl]

theorem Zc1 {k : Nat} {x : GTerm} (hw : maxLen + 2 * nT x + 2 < k) (hx : x.ok) : Z8b k x = some (tOk x) := by
  unfold Z8b tOk
  rw [Zut k x hw hx 1 (by omega) (by omega)]
  simp only [Option.bind_some]
  unfold cnt
  cases gT 1 x <;> by_cases h : 1 + nT x ≤ 400 <;> simp [h] <;> omega
theorem obs {α β : Type} {a : α} {f : α → Option β} : (some a).bind f = f a := by
  cases h : f a with
  | none => exact h
  | some b => exact h
def symb (b : Int) : Bool := decide (Lib.indexByte (bs [43, 45, 42, 47, 92, 94, 60, 62, 61, 126, 58, 46, 63, 64, 35, 38, 36]).data.toList b.toNat.toUInt8 ≥ 0)
def endb (b : Int) : Bool := decide (Lib.indexByte (bs [32, 9, 10, 37]).data.toList b.toNat.toUInt8 ≥ 0)
def Zec (b : Int) : Bool := decide (Lib.indexByte (bs [40, 41, 91, 93, 44, 124]).data.toList b.toNat.toUInt8 ≥ 0)
def Zje (b : Int) : Bool := (decide (97 ≤ b ∧ b ≤ 122)) || ((decide (65 ≤ b ∧ b ≤ 90)) || ((decide (48 ≤ b ∧ b ≤ 57)) || b == 95))
def figb (b : Int) : Bool := decide (48 ≤ b ∧ b ≤ 57)
def Z9k (b : Int) : Bool := (decide (65 ≤ b ∧ b ≤ 90)) || b == 95
def Z6v (b : Int) : Bool := decide (97 ≤ b ∧ b ≤ 122)
def okb (n : Nat) (b : Nat) : Bool :=
  (Z4p (n + 100) (b : Int) == some (symb b)) && (Z9e (n + 100) (b : Int) == some (Zje b)) && (Z86 (n + 100) (b : Int) == some (Zje b)) &&
  (Z6z (n + 100) (b : Int) == some (Z6v b)) && (Z9v (n + 100) (b : Int) == some (Z6v b)) && (Z63 (n + 100) (b : Int) == some (Z9k b)) &&
  (Z5f (n + 100) (b : Int) == some (figb b)) && (Z89 (n + 100) (b : Int) == some (figb b)) && (endb b == (((b : Int) == 32) || (((b : Int) == 9) || (((b : Int) == 10) || ((b : Int) == 37))))) &&
  (Zec b == (((b : Int) == 40) || (((b : Int) == 41) || (((b : Int) == 91) || (((b : Int) == 93) || (((b : Int) == 44) || ((b : Int) == 124))))))) && !(symb b && Zec b)
theorem Zto (n : Nat) : (List.range 256).all (okb n) = true := by kernel_rfl
structure ByteOk (k : Nat) (b : Int) : Prop where
  sym : Z4p k b = some (symb b)
  word : Z9e k b = some (Zje b)
  iword : Z86 k b = some (Zje b)
  small : Z6z k b = some (Z6v b)
  ismall : Z9v k b = some (Z6v b)
  great : Z63 k b = some (Z9k b)
  fig : Z5f k b = some (figb b)
  ifig : Z89 k b = some (figb b)
  ende : endb b = ((b == 32) || ((b == 9) || ((b == 10) || (b == 37))))
  mark : Zec b = ((b == 40) || ((b == 41) || ((b == 91) || ((b == 93) || ((b == 44) || (b == 124))))))
  sm : symb b = true → Zec b = false
theorem Ze5 {k : Nat} (hk : 100 ≤ k) (s : ByteArray) (i : Int) : ByteOk k (bt s i) := by
  obtain ⟨n, rfl⟩ : ∃ n, k = n + 100 := ⟨k - 100, by omega⟩
  have hb := Zuc s i
  obtain ⟨b, hb'⟩ := Int.eq_ofNat_of_zero_le hb.1
  rw [hb'] at hb ⊢
  have h := List.all_eq_true.1 (Zto n) b (List.mem_range.2 (by omega))
  unfold okb at h
  simp only [Bool.and_eq_true, beq_iff_eq] at h
  obtain ⟨⟨⟨⟨⟨⟨⟨⟨⟨⟨h1, h2⟩, h3⟩, h4⟩, h5⟩, h6⟩, h7⟩, h8⟩, h9⟩, h10⟩, h11⟩ := h
  exact ⟨h1, h2, h3, h4, h5, h6, h7, h8, h9, h10, fun q => by simpa [q] using h11⟩
theorem Zwa {x : Int} (h1 : 0 ≤ x) (h2 : x ≤ 255) : wr.u8 x = x := by
  unfold wr.u8 IntKind.wrap
  simp [IntKind.signed, IntKind.bits]
  omega
theorem idx {s : ByteArray} {n : Nat} (h : n < s.size) : 0 ≤ (n : Int) ∧ ((n : Int)).toNat < s.size := ⟨by omega, by simpa using h⟩
theorem lt_t {s : ByteArray} {n : Nat} (h : n < s.size) : decide ((n : Int) < (s.size : Int)) = true := by simpa using h
theorem lt_f {s : ByteArray} {n : Nat} (h : ¬ n < s.size) : ¬ decide ((n : Int) < (s.size : Int)) = true := by simpa using h
theorem Z90 {n : Nat} (h : n ≤ 3000) : wr.i64 ((n : Int) + 1) = ((n + 1 : Nat) : Int) := by rw [Z2k (by omega) (by omega)]; omega
def Run (f : Int → Bool) (s : ByteArray) (n p : Nat) : Prop := n ≤ p ∧ p ≤ s.size ∧ (∀ i, n ≤ i → i < p → f (bt s (i : Int)) = true) ∧ (p < s.size → f (bt s (p : Int)) = false)
theorem Run.step {f : Int → Bool} {s : ByteArray} {n p : Nat} (h : f (bt s (n : Int)) = true) (g : Run f s (n + 1) p) : Run f s n p :=
  ⟨by have := g.1; omega, g.2.1, fun i h1 h2 => by
    by_cases c : i = n
    · rw [c]; exact h
    · exact g.2.2.1 i (by omega) h2, g.2.2.2⟩
theorem Zrb {k : Nat} (hk : 100 ≤ k) {s : ByteArray} (hs : s.size ≤ 3000) : ∀ (m n : Nat), n ≤ s.size → s.size - n < m → ∃ p : Nat, Z7h k s m (n : Int) = some (.done (p : Int)) ∧ Z2b k s m (n : Int) = some (.done (p : Int)) ∧ Run Zje s n p
  | 0, n, h1, h2 => by omega
  | m + 1, n, h1, h2 => by
    rw [Z7h, Z2b]
    by_cases hlt : n < s.size
    · have b := Ze5 hk s (n : Int)
      rw [if_pos (lt_t hlt), if_pos (lt_t hlt), if_pos (idx hlt), if_pos (idx hlt), b.word, b.iword, obs, obs]
      cases hb : Zje (bt s (n : Int)) with
      | true =>
        rw [if_pos rfl, if_pos rfl, Z90 (by omega)]
        obtain ⟨p, e1, e2, e3⟩ := Zrb hk hs m (n + 1) (by omega) (by omega)
        exact ⟨p, e1, e2, e3.step hb⟩
      | false => exact ⟨n, rfl, rfl, Nat.le_refl _, h1, fun i _ _ => by omega, fun _ => hb⟩
    · rw [if_neg (lt_f hlt), if_neg (lt_f hlt)]
      exact ⟨n, rfl, rfl, Nat.le_refl _, h1, fun i _ _ => by omega, fun h => absurd h hlt⟩
theorem Zi3 {k : Nat} (hk : 100 ≤ k) {s : ByteArray} (hs : s.size ≤ 3000) : ∀ (m n : Nat), n ≤ s.size → s.size - n < m → ∃ p : Nat, Z6h k s m (n : Int) = some (.done (p : Int)) ∧ Z1z k s m (n : Int) = some (.done (p : Int)) ∧ Run symb s n p
  | 0, n, h1, h2 => by omega
  | m + 1, n, h1, h2 => by
    rw [Z6h, Z1z]
    by_cases hlt : n < s.size
    · have b := Ze5 hk s (n : Int)
      have ib : Z2n k (bt s (n : Int)) = some (symb (bt s (n : Int))) := by unfold Z2n Z1l symb; rw [obs]
      rw [if_pos (lt_t hlt), if_pos (lt_t hlt), if_pos (idx hlt), if_pos (idx hlt), b.sym, ib, obs, obs]
      cases hb : symb (bt s (n : Int)) with
      | true =>
        rw [if_pos rfl, if_pos rfl, Z90 (by omega)]
        obtain ⟨p, e1, e2, e3⟩ := Zi3 hk hs m (n + 1) (by omega) (by omega)
        exact ⟨p, e1, e2, e3.step hb⟩
      | false => exact ⟨n, rfl, rfl, Nat.le_refl _, h1, fun i _ _ => by omega, fun _ => hb⟩
    · rw [if_neg (lt_f hlt), if_neg (lt_f hlt)]
      exact ⟨n, rfl, rfl, Nat.le_refl _, h1, fun i _ _ => by omega, fun h => absurd h hlt⟩
theorem Zj2 {k : Nat} (hk : 100 ≤ k) {s : ByteArray} (hs : s.size ≤ 3000) : ∀ (m n : Nat), n ≤ s.size → s.size - n < m → ∃ p : Nat, Z2l k s m (n : Int) = some (.done (p : Int)) ∧ Run figb s n p
  | 0, n, h1, h2 => by omega
  | m + 1, n, h1, h2 => by
    rw [Z2l]
    by_cases hlt : n < s.size
    · have b := Ze5 hk s (n : Int)
      rw [if_pos (lt_t hlt), if_pos (idx hlt), b.ifig, obs]
      cases hb : figb (bt s (n : Int)) with
      | true =>
        rw [if_pos rfl, Z90 (by omega)]
        obtain ⟨p, e1, e3⟩ := Zj2 hk hs m (n + 1) (by omega) (by omega)
        exact ⟨p, e1, e3.step hb⟩
      | false => exact ⟨n, rfl, Nat.le_refl _, h1, fun i _ _ => by omega, fun _ => hb⟩
    · rw [if_neg (lt_f hlt)]
      exact ⟨n, rfl, Nat.le_refl _, h1, fun i _ _ => by omega, fun h => absurd h hlt⟩
theorem Zpz {k : Nat} (hk : 100 ≤ k) {s : ByteArray} (hs : s.size ≤ 3000) {p : Nat} : ∀ (m n : Nat) (v : Int), n ≤ p → p - n < m → s.size - n < m → Run figb s n p → 0 ≤ v → v ≤ 9999999999 →
    ∃ i v', Z6i k s m (n : Int) v = some (.done ((i : Nat), v')) ∧ Z31 k (p : Int) s m v (n : Int) = some (.done v') ∧ (v' ≤ 999999999 → i = p) ∧ 0 ≤ v'
  | 0, n, v, h1, h2, h3, h4, h5, h6 => by omega
  | m + 1, n, v, h1, h2, h3, h4, h5, h6 => by
    rw [Z6i, Z31]
    have hps := h4.2.1
    by_cases hp : n < p
    · have hlt : n < s.size := by omega
      have b := Ze5 hk s (n : Int)
      have hf := h4.2.2.1 n (Nat.le_refl _) hp
      have hpd : decide ((n : Int) < (p : Int)) = true := by simpa using hp
      rw [if_pos (lt_t hlt), if_pos (idx hlt), b.fig, obs, hf, if_pos rfl, if_pos hpd]
      by_cases c : v ≤ 999999999
      · have cd : decide (v ≤ 999999999) = true := by simpa using c
        simp only [if_pos cd, if_pos (idx hlt), Z90 (show n ≤ 3000 by omega)]
        unfold figb at hf
        have hr := of_decide_eq_true hf
        have w1 : wr.i64 (10 * v) = 10 * v := Z2k (by omega) (by omega)
        have w2 : wr.i64 (bt s (n : Int)) = bt s (n : Int) := Z2k (by omega) (by omega)
        have w3 : wr.u8 (bt s (n : Int) - 48) = bt s (n : Int) - 48 := by
          exact Zwa (by omega) (by omega)
        have w4 : wr.i64 (bt s (n : Int) - 48) = bt s (n : Int) - 48 := Z2k (by omega) (by omega)
        rw [w1, w2, w3, w4, Z2k (x := 10 * v + bt s (n : Int)) (by omega) (by omega), Z2k (x := 10 * v + bt s (n : Int) - 48) (by omega) (by omega), Z2k (x := 10 * v + (bt s (n : Int) - 48)) (by omega) (by omega), show 10 * v + (bt s (n : Int) - 48) = 10 * v + bt s (n : Int) - 48 by omega]
        exact Zpz hk hs m (n + 1) _ (by omega) (by omega) (by omega) ⟨by omega, h4.2.1, fun i a b => h4.2.2.1 i (by omega) b, h4.2.2.2⟩ (by omega) (by omega)
      · have cd : ¬ decide (v ≤ 999999999) = true := by simpa using c
        rw [if_neg cd, if_neg cd]
        exact ⟨n, v, rfl, rfl, fun h => absurd h c, h5⟩
    · have hn : n = p := by omega
      subst hn
      have hpd : ¬ decide ((n : Int) < (n : Int)) = true := by simp
      rw [if_neg hpd]
      by_cases hlt : n < s.size
      · have b := Ze5 hk s (n : Int)
        rw [if_pos (lt_t hlt), if_pos (idx hlt), b.fig, obs, h4.2.2.2 hlt, if_neg (by decide)]
        exact ⟨n, v, rfl, rfl, fun _ => rfl, h5⟩
      · rw [if_neg (lt_f hlt)]
        exact ⟨n, v, rfl, rfl, fun _ => rfl, h5⟩
theorem Zeq {s : ByteArray} {a b : Nat} (h : b ≤ s.size) : (s.extract a b).size = b - a := by rw [ByteArray.size_extract]; omega
theorem near {k : Nat} {s : ByteArray} {n p : Nat} (hs : p - n ≤ 20) (h1 : n ≤ p) (h2 : p ≤ s.size) {g : GSign} (hg : g.gKind = 1 ∨ g.gKind = 2) :
    Z17 k (n : Int) s (p : Int) g = some (GSign.mk g.gKind (s.extract n p) g.gNum g.gAt g.gNear, (p : Int)) := by
  unfold Z17 Z3k
  have hz : ¬ (g.gKind == 0) = true := by rcases hg with h | h <;> rw [h] <;> decide
  have h4 : (g.gKind != 4) = true := by rcases hg with h | h <;> rw [h] <;> decide
  have hd : ¬ decide (((s.extract ((n : Int)).toNat ((p : Int)).toNat).size : Int) > 20) = true := by
    simp only [Int.toNat_natCast, Zeq h2]; rw [decide_eq_true_eq]; omega
  rw [if_pos ⟨by omega, by omega, by omega⟩, if_neg hz, if_pos h4, if_neg hd]
  rfl
theorem Zn9 {k : Nat} {s : ByteArray} {n p : Nat} (hs : 20 < p - n) (h1 : n ≤ p) (h2 : p ≤ s.size) (h3 : s.size ≤ 3000) {g : GSign} (hg : g.gKind = 1 ∨ g.gKind = 2) :
    Z17 k (n : Int) s (p : Int) g = some (GSign.mk 6 (s.extract n (n + 1)) g.gNum g.gAt g.gNear, ((n + 1 : Nat) : Int)) := by
  unfold Z17 Z3k
  have hz : ¬ (g.gKind == 0) = true := by rcases hg with h | h <;> rw [h] <;> decide
  have h4 : (g.gKind != 4) = true := by rcases hg with h | h <;> rw [h] <;> decide
  have hd : decide (((s.extract ((n : Int)).toNat ((p : Int)).toNat).size : Int) > 20) = true := by
    simp only [Int.toNat_natCast, Zeq h2]; rw [decide_eq_true_eq]; omega
  rw [if_pos ⟨by omega, by omega, by omega⟩, if_neg hz, if_pos h4, if_pos hd, Z90 (by omega), if_pos ⟨by omega, by omega, by omega⟩]
  rfl
theorem bad {k : Nat} {s : ByteArray} {n : Nat} (hs : s.size ≤ 3000) (h1 : n < s.size) {e : Int} (he : (n : Int) ≤ e ∧ e ≤ (s.size : Int)) : Z17 k (n : Int) s e (GSign.mk 0 (bs []) 0 (n : Int) false) = some (GSign.mk 6 (s.extract n (n + 1)) 0 (n : Int) false, ((n + 1 : Nat) : Int)) := by
  unfold Z17 Z3k
  dsimp only
  rw [if_pos ⟨by omega, he.1, he.2⟩, if_pos (by decide), if_pos rfl, Z90 (by omega), if_pos ⟨by omega, by omega, by omega⟩]
  rfl
theorem Zwq {k : Nat} {s : ByteArray} {n : Nat} (hs : s.size ≤ 3000) (h1 : n < s.size) : Z17 k (n : Int) s (wr.i64 ((n : Int) + 1)) (GSign.mk 4 (bs []) 0 (n : Int) false) = some (GSign.mk 4 (s.extract n (n + 1)) 0 (n : Int) false, ((n + 1 : Nat) : Int)) := by
  unfold Z17 Z3k
  dsimp only
  rw [Z90 (by omega), if_pos ⟨by omega, by omega, by omega⟩, if_neg (by decide), if_neg (by decide), if_neg (by decide)]
  rfl
def fin (s : ByteArray) (n : Nat) : Bool := (bt s (n : Int) == 46) && ((n == 0 || !symb (bt s ((n - 1 : Nat) : Int))) && (n + 1 == s.size || endb (bt s ((n + 1 : Nat) : Int))))
theorem ends {k : Nat} (hk : 100 ≤ k) {s : ByteArray} (hs : s.size ≤ 3000) {n : Nat} (h : n < s.size) : Zam k s (n : Int) = some (fin s n) ∧ Z8a k s (n : Int) = some (fin s n) := by
  have tailS : n + 1 ≠ s.size → (Z2p k (bt s ((n + 1 : Nat) : Int))).bind (fun e => if e = true then some true else if 0 ≤ ((n + 1 : Nat) : Int) ∧ (((n + 1 : Nat) : Int)).toNat < s.size then some ((bt s ((n + 1 : Nat) : Int)) == 37) else none) = some (endb (bt s ((n + 1 : Nat) : Int))) := fun hq => by
    have b := Ze5 hk s ((n + 1 : Nat) : Int)
    rw [b.ende]
    unfold Z2p
    rw [if_pos (idx (show n + 1 < s.size by omega))]
    cases bt s ((n + 1 : Nat) : Int) == 32 <;> cases bt s ((n + 1 : Nat) : Int) == 9 <;> cases bt s ((n + 1 : Nat) : Int) == 10 <;> rfl
  have J1 : Z5r k (n : Int) s = some (n + 1 == s.size || endb (bt s ((n + 1 : Nat) : Int))) := by
    unfold Z5r
    rw [Z90 (by omega)]
    by_cases hq : n + 1 = s.size
    · rw [if_pos (by rw [beq_iff_eq]; omega), show (n + 1 == s.size) = true from by rw [beq_iff_eq]; exact hq]; rfl
    · rw [if_neg (by rw [beq_iff_eq]; omega), if_pos (idx (show n + 1 < s.size by omega)), show (n + 1 == s.size) = false from by rw [beq_eq_false_iff_ne]; exact hq]
      unfold Z1l endb
      rw [obs]; rfl
  have tS : (if (((n + 1 : Nat) : Int) == (s.size : Int)) = true then some true else if 0 ≤ ((n + 1 : Nat) : Int) ∧ (((n + 1 : Nat) : Int)).toNat < s.size then (Z2p k (bt s ((n + 1 : Nat) : Int))).bind (fun e => if e = true then some true else if 0 ≤ ((n + 1 : Nat) : Int) ∧ (((n + 1 : Nat) : Int)).toNat < s.size then some ((bt s ((n + 1 : Nat) : Int)) == 37) else none) else none) = some (n + 1 == s.size || endb (bt s ((n + 1 : Nat) : Int))) := by
    by_cases hq : n + 1 = s.size
    · rw [if_pos (by rw [beq_iff_eq]; omega), show (n + 1 == s.size) = true from by rw [beq_iff_eq]; exact hq]; rfl
    · rw [if_neg (by rw [beq_iff_eq]; omega), if_pos (idx (show n + 1 < s.size by omega)), show (n + 1 == s.size) = false from by rw [beq_eq_false_iff_ne]; exact hq, tailS hq]; rfl
  unfold Zam Z8a fin
  rw [if_pos (idx h), if_pos (idx h), Z90 (by omega)]
  cases h46 : bt s (n : Int) == 46 with
  | false =>
    have : (bt s (n : Int) != 46) = true := by unfold bne; rw [h46]; rfl
    rw [if_neg (by decide), if_pos this]; exact ⟨rfl, rfl⟩
  | true =>
    have : ¬ (bt s (n : Int) != 46) = true := by unfold bne; rw [h46]; decide
    rw [if_pos rfl, if_neg this]
    by_cases h0 : n = 0
    · subst h0
      rw [if_pos (by decide), tS, if_neg (by decide), J1]
      exact ⟨rfl, rfl⟩
    · have hm : wr.i64 ((n : Int) - 1) = ((n - 1 : Nat) : Int) := by rw [Z2k (by omega) (by omega)]; omega
      have b := Ze5 hk s ((n - 1 : Nat) : Int)
      have ib : Z2n k (bt s ((n - 1 : Nat) : Int)) = some (symb (bt s ((n - 1 : Nat) : Int))) := by unfold Z2n Z1l symb; rw [obs]
      have hn0 : ¬ ((n : Int) == 0) = true := by rw [beq_iff_eq]; omega
      have hpos : decide ((n : Int) > 0) = true := by rw [decide_eq_true_eq]; omega
      rw [if_neg hn0, hm, if_pos (idx (show n - 1 < s.size by omega)), b.sym, obs, if_pos hpos, if_pos (idx (show n - 1 < s.size by omega)), ib, obs, J1, show (n == 0) = false from by rw [beq_eq_false_iff_ne]; exact h0]
      cases symb (bt s ((n - 1 : Nat) : Int)) with
      | true => exact ⟨rfl, rfl⟩
      | false =>
        simp only [Bool.not_false, if_true, Bool.false_eq_true, if_false]
        rw [tS]; exact ⟨rfl, rfl⟩
theorem Zaz {s : ByteArray} {n : Nat} {c : UInt8} (h : n < s.size) (hb : bt s (n : Int) = (c.toNat : Int)) : s.extract n (n + 1) = bs [c] := by
  have e : s[n] = c := by
    unfold bt at hb
    rw [Int.toNat_natCast, getElem?_pos s n h, Option.getD_some] at hb
    have : s[n].toNat = c.toNat := by omega
    exact UInt8.toNat_inj.1 this
  apply ByteArray.ext
  rw [ByteArray.data_extract]
  apply Array.ext
  · have : s.data.size = s.size := rfl
    simp [bs]; omega
  · intro i h1 h2
    have : i = 0 := by simp [bs] at h2; omega
    subst this
    simp [bs]
    exact e
theorem Run.uniq {f : Int → Bool} {s : ByteArray} {n p q : Nat} (a : Run f s n p) (b : Run f s n q) : p = q := by
  rcases Nat.lt_trichotomy p q with h | h | h
  · have := b.2.2.1 p a.1 h
    rw [a.2.2.2 (by have := b.2.1; omega)] at this; cases this
  · exact h
  · have := a.2.2.1 q b.1 h
    rw [b.2.2.2 (by have := a.2.1; omega)] at this; cases this
def Zm9 (b : Int) : Bool := decide (33 ≤ b ∧ b ≤ 126 ∧ b ≠ 39 ∧ b ≠ 34)
theorem Zqk {k : Nat} {s : ByteArray} (hs : s.size ≤ 3000) : ∀ (m n : Nat), n ≤ s.size → s.size - n < m → ∃ p : Nat, Z1y k s m (n : Int) = some (.done (p : Int)) ∧ Run Zm9 s n p
  | 0, n, h1, h2 => by omega
  | m + 1, n, h1, h2 => by
    rw [Z1y]
    by_cases hlt : n < s.size
    · have hb := Zuc s (n : Int)
      have e : Z6c k (bt s (n : Int)) = some (Zm9 (bt s (n : Int))) := by
        unfold Z6c Zm9
        rw [Zes, obs, Z2k (by omega) (by omega)]
        unfold inR
        by_cases c1 : 33 ≤ bt s (n : Int) ∧ bt s (n : Int) ≤ 126
        · rw [if_pos (by simpa using c1)]
          by_cases c2 : bt s (n : Int) = 39
          · rw [c2]; rfl
          · rw [if_pos (by simpa using c2)]
            by_cases c3 : bt s (n : Int) = 34
            · rw [c3]; rfl
            · rw [decide_eq_true (p := 33 ≤ bt s (n : Int) ∧ bt s (n : Int) ≤ 126 ∧ bt s (n : Int) ≠ 39 ∧ bt s (n : Int) ≠ 34) ⟨c1.1, c1.2, c2, c3⟩]
              simpa using c3
        · rw [if_neg (by simpa using c1), decide_eq_false (fun h => c1 ⟨h.1, h.2.1⟩)]
      rw [if_pos (lt_t hlt), if_pos (idx hlt), e, obs]
      cases hg : Zm9 (bt s (n : Int)) with
      | true =>
        rw [if_pos rfl, Z90 (by omega)]
        obtain ⟨p, e1, e3⟩ := Zqk hs m (n + 1) (by omega) (by omega)
        exact ⟨p, e1, e3.step hg⟩
      | false => exact ⟨n, rfl, Nat.le_refl _, h1, fun i _ _ => by omega, fun _ => hg⟩
    · rw [if_neg (lt_f hlt)]
      exact ⟨n, rfl, Nat.le_refl _, h1, fun i _ _ => by omega, fun h => absurd h hlt⟩
theorem Zt4 {s : ByteArray} {a b i : Nat} (h : a + i < b) (hb : b ≤ s.size) : bt (s.extract a b) (i : Int) = bt s ((a + i : Nat) : Int) := by
  unfold bt
  rw [Int.toNat_natCast, Int.toNat_natCast, getElem?_pos (s.extract a b) i (by rw [Zeq hb]; omega), getElem?_pos s (a + i) (by omega), ByteArray.getElem_extract]
def Zjo (s : ByteArray) (n p : Nat) : Bool := decide (p < s.size ∧ bt s (p : Int) = 39 ∧ 1 ≤ p - (n + 1) ∧ p - (n + 1) ≤ 20)
def outQ : Out Int Unit → Int
  | .ret r => r
  | .done _ => 0
theorem Zph {k : Nat} (hk : 4000 < k - maxLen) {s : ByteArray} (hs : s.size ≤ 3000) {n p : Nat} (hR : Run Zm9 s (n + 1) p) : ∀ (m j : Nat), n + 1 ≤ j → j ≤ s.size → s.size - j < m → (∀ i, n + 1 ≤ i → i < j → bt s (i : Int) ≠ 39) →
    ∃ o, Z5e k s (n : Int) m (j : Int) = some o ∧ outQ o = if Zjo s n p = true then ((p + 1 : Nat) : Int) else 0
  | 0, j, h0, h1, h2, h3 => by omega
  | m + 1, j, h0, h1, h2, h3 => by
    have hM := Z15
    have good39 : ∀ b : Int, Zm9 b = true → b ≠ 39 := fun b h e => by rw [e] at h; cases h
    rw [Z5e]
    by_cases hlt : j < s.size
    · rw [if_pos (lt_t hlt), if_pos (idx hlt)]
      by_cases c : bt s (j : Int) = 39
      · have hE : (s.extract (n + 1) j).size = j - (n + 1) := Zeq (by omega)
        have hN := Zq9 (k := k) (s := s.extract (n + 1) j) (by omega) (by omega)
        rw [if_pos (by simpa using c), Z90 (by omega), if_pos ⟨by omega, by omega, by omega⟩, Int.toNat_natCast, Int.toNat_natCast, hN, obs, Z90 (by omega)]
        by_cases hn : nmOk (s.extract (n + 1) j)
        · rw [if_pos (by simpa using hn)]
          have hR2 : Run Zm9 s (n + 1) j := by
            refine ⟨h0, h1, fun i a b => ?_, fun _ => by rw [c]; decide⟩
            obtain ⟨q, rfl⟩ : ∃ q, i = n + 1 + q := ⟨i - (n + 1), by omega⟩
            have hq : q < (s.extract (n + 1) j).size := by omega
            have g := hn.1 q hq
            unfold gb at g
            rw [Zt4 (by omega) h1] at g
            exact decide_eq_true g
          obtain rfl := hR.uniq hR2
          refine ⟨_, rfl, ?_⟩
          have n2 := hn.2
          rw [if_pos (by unfold Zjo; rw [decide_eq_true_eq]; exact ⟨hlt, c, by omega, by omega⟩)]
          rfl
        · rw [if_neg (by simpa using hn)]
          refine ⟨_, rfl, ?_⟩
          rw [if_neg ?_]; rfl
          intro hq
          unfold Zjo at hq
          obtain ⟨q1, q2, q3, q4⟩ := of_decide_eq_true hq
          have hpj : p = j := by
            rcases Nat.lt_trichotomy p j with h | h | h
            · exact absurd q2 (h3 p hR.1 h)
            · exact h
            · exact absurd c (good39 _ (hR.2.2.1 j h0 h))
          subst hpj
          refine hn ⟨fun i hi => ?_, by omega, by omega⟩
          have := hR.2.2.1 (n + 1 + i) (by omega) (by omega)
          unfold gb
          rw [Zt4 (by omega) h1]
          exact of_decide_eq_true this
      · rw [if_neg (by simpa using c), Z90 (by omega)]
        exact Zph hk hs hR m (j + 1) (by omega) (by omega) (by omega) (fun i a b => by
          by_cases e : i = j
          · rw [e]; exact c
          · exact h3 i a (by omega))
    · rw [if_neg (lt_f hlt)]
      refine ⟨_, rfl, ?_⟩
      rw [if_neg ?_]; rfl
      intro hq
      unfold Zjo at hq
      obtain ⟨q1, q2, q3, q4⟩ := of_decide_eq_true hq
      exact h3 p hR.1 (by omega) q2
theorem Zv7 {k : Nat} (hk : 4000 < k - maxLen) {s : ByteArray} (hs : s.size ≤ 3000) {n : Nat} (h : n < s.size) : ∃ p : Nat, Z2g k s ((n + 1 : Nat) : Int) = some (p : Int) ∧ Z7i k s (n : Int) = some (if Zjo s n p = true then ((p + 1 : Nat) : Int) else 0) ∧ n + 1 ≤ p ∧ p ≤ s.size := by
  have hM := Z15
  obtain ⟨p, e1, e2⟩ := Zqk (k := k) hs k (n + 1) (by omega) (by omega)
  obtain ⟨o, e3, e4⟩ := Zph hk hs e2 k (n + 1) (Nat.le_refl _) (by omega) (by omega) (fun i a b => by omega)
  refine ⟨p, ?_, ?_, e2.1, e2.2.1⟩
  · unfold Z2g
    rw [e1, obs]
  · unfold Z7i
    rw [Z90 (by omega), e3, obs, ← e4]
    cases o <;> rfl
def Zo5 : List ByteArray := [bs [40], bs [41], bs [91], bs [93], bs [44], bs [124]]
structure TokI (s : ByteArray) (n : Nat) (g : GSign) : Prop where
  mm : g.gKind = 4 → g.gText ∈ Zo5
  sz : g.gText.size ≤ 3000
  n0 : 0 ≤ g.gNum
  n9 : g.gNum ≤ 999999999
  op : bt s (n : Int) = 40 → g.gKind = 4 ∧ g.gText = bs [40]
theorem tk {s : ByteArray} {n : Nat} {kd v a : Int} {t : ByteArray} {e : Bool} (hk : kd ≠ 4) (ht : t.size ≤ 3000) (h0 : 0 ≤ v) (h9 : v ≤ 999999999) (h : bt s (n : Int) ≠ 40) : TokI s n (GSign.mk kd t v a e) :=
  ⟨fun e => absurd e hk, ht, h0, h9, fun e => absurd e h⟩
theorem tkM {k : Nat} {s : ByteArray} {n : Nat} {a : Int} {e : Bool} (h : n < s.size) (hz : s.size ≤ 3000) (b : ByteOk k (bt s (n : Int))) (hm : Zec (bt s (n : Int)) = true) : TokI s n (GSign.mk 4 (s.extract n (n + 1)) 0 a e) := by
  refine ⟨fun _ => ?_, by show (s.extract n (n + 1)).size ≤ 3000; rw [ByteArray.size_extract]; omega, Int.le_refl 0, (show (0 : Int) ≤ 999999999 by decide), fun e => ⟨rfl, Zaz (c := 40) h e⟩⟩
  have hb := b.mark
  rw [hm] at hb
  have hb := hb.symm
  simp only [Bool.or_eq_true, beq_iff_eq] at hb
  show s.extract n (n + 1) ∈ Zo5
  unfold Zo5
  rcases hb with e | e | e | e | e | e
  · rw [Zaz (c := 40) h e]; simp
  · rw [Zaz (c := 41) h e]; simp
  · rw [Zaz (c := 91) h e]; simp
  · rw [Zaz (c := 93) h e]; simp
  · rw [Zaz (c := 44) h e]; simp
  · rw [Zaz (c := 124) h e]; simp
theorem sign {k : Nat} (hk : 3100 ≤ k) {s : ByteArray} (hz : s.size ≤ 3000) {n : Nat} (h : n < s.size) (hq : bt s (n : Int) = 39 → 4000 < k - maxLen) : ∃ g : GSign, ∃ p : Nat, Z48 k s (n : Int) = some (g, (p : Int)) ∧ Z83 k s (n : Int) = some (g, (p : Int)) ∧ n < p ∧ p ≤ s.size ∧ TokI s n g := by
  have h40 : ∀ {f : Int → Bool}, f (bt s (n : Int)) = true → f 40 = false → bt s (n : Int) ≠ 40 := fun {f} h1 h2 e => by rw [e, h2] at h1; cases h1
  have es : ∀ a b : Nat, b ≤ s.size → (s.extract a b).size ≤ 3000 := fun a b hb => by rw [ByteArray.size_extract]; omega
  have hk' : 100 ≤ k := by omega
  have b := Ze5 hk' s (n : Int)
  obtain ⟨hE, hI⟩ := ends hk' hz h
  have w1 : wr.i64 ((n : Int) + 1) = ((n + 1 : Nat) : Int) := Z90 (by omega)
  have ib : Z2n k (bt s (n : Int)) = some (symb (bt s (n : Int))) := by unfold Z2n Z1l symb; rw [obs]
  have one : s.extract n (n + 1) = s.extract (n : Int).toNat ((n + 1 : Nat) : Int).toNat := rfl
  obtain ⟨pw, ew1, ew2, ew3⟩ := Zrb hk' hz k n (by omega) (by omega)
  obtain ⟨ps, es1, es2, es3⟩ := Zi3 hk' hz k n (by omega) (by omega)
  obtain ⟨pf, ef1, ef2⟩ := Zj2 hk' hz k n (by omega) (by omega)
  have hup : Zb8 k (bt s (n : Int)) = some (decide (65 ≤ bt s (n : Int) ∧ bt s (n : Int) ≤ 90)) := by
    unfold Zb8
    by_cases c : 65 ≤ bt s (n : Int)
    · rw [if_pos (by simpa using c)]; simp [c]
    · rw [if_neg (by simpa using c)]; simp [c]
  have hws : Z6v (bt s (n : Int)) = true ∨ Z9k (bt s (n : Int)) = true → Zje (bt s (n : Int)) = true := by
    unfold Z6v Z9k Zje; simp; omega
  have stop : ∀ {f : Int → Bool} {p : Nat}, Run f s n p → f (bt s (n : Int)) = true → n < p := fun {f p} r hf => by
    rcases Nat.lt_or_ge n p with q | q
    · exact q
    · have : p = n := by have := r.1; omega
      subst this
      rw [r.2.2.2 h] at hf; cases hf
  -- a word
  have W : Z6v (bt s (n : Int)) = true ∨ Z9k (bt s (n : Int)) = true → ∃ g : GSign, ∃ p : Nat, Z10 k s (n : Int) true = some (g, (p : Int)) ∧ Z1s k s (n : Int) true = some (g, (p : Int)) ∧ n < p ∧ p ≤ s.size ∧ TokI s n g := by
    intro hw
    have hlt := stop ew3 (hws hw)
    have hps := ew3.2.1
    have n40 := h40 (hws hw) (by decide)
    unfold Z10 Z1s Z2u Zcn
    simp only [if_true, ew1, ew2, obs, b.ismall, b.great]
    rw [Z2k (x := (pw : Int) - (n : Int)) (by omega) (by omega)]
    by_cases c20 : pw - n ≤ 20
    · have h20 : decide ((pw : Int) - (n : Int) ≤ 20) = true := by rw [decide_eq_true_eq]; omega
      rw [if_pos h20]
      cases hgr : Z9k (bt s (n : Int)) with
      | true =>
        have hsm : Z6v (bt s (n : Int)) = false := by
          unfold Z9k at hgr; unfold Z6v; simp at hgr ⊢; omega
        simp only [hsm, Bool.false_eq_true, if_false, if_true]
        rw [if_pos ⟨by omega, by omega, by omega⟩, near c20 (by omega) hps (.inr rfl)]
        exact ⟨_, _, rfl, rfl, hlt, hps, tk (kd := 2) (by decide) (es _ _ hps) (Int.le_refl 0) (show (0 : Int) ≤ 999999999 by decide) n40⟩
      | false =>
        have hsm : Z6v (bt s (n : Int)) = true := by rcases hw with hw | hw; exact hw; rw [hw] at hgr; cases hgr
        simp only [hsm, Bool.false_eq_true, if_false, if_true]
        rw [if_pos ⟨by omega, by omega, by omega⟩, near c20 (by omega) hps (.inl rfl)]
        exact ⟨_, _, rfl, rfl, hlt, hps, tk (kd := 1) (by decide) (es _ _ hps) (Int.le_refl 0) (show (0 : Int) ≤ 999999999 by decide) n40⟩
    · have h20 : ¬ decide ((pw : Int) - (n : Int) ≤ 20) = true := by rw [decide_eq_true_eq]; omega
      rw [if_neg h20, w1]
      have nl : ∀ g : GSign, (g.gKind = 1 ∨ g.gKind = 2) → _ := fun g hg => Zn9 (k := k) (n := n) (p := pw) (g := g) (by omega) (by omega) hps hz hg
      have fin : TokI s n (GSign.mk 6 (s.extract n (n + 1)) 0 (n : Int) false) := tk (by decide) (es _ _ (by omega)) (Int.le_refl 0) (show (0 : Int) ≤ 999999999 by decide) n40
      cases hsm : Z6v (bt s (n : Int)) with
      | true => rw [if_pos rfl, nl _ (.inl rfl)]; exact ⟨_, n + 1, rfl, rfl, by omega, by omega, fin⟩
      | false => rw [if_neg (by decide), nl _ (.inr rfl)]; exact ⟨_, n + 1, rfl, rfl, by omega, by omega, fin⟩
  -- all else
  have J4 : ∀ e : Bool, Z6v (bt s (n : Int)) = false → e = Zec (bt s (n : Int)) → fin s n = false → (bt s (n : Int) == 33) = false → (bt s (n : Int) == 59) = false → Z9k (bt s (n : Int)) = false → figb (bt s (n : Int)) = false → ¬ (bt s (n : Int) == 39) = true →
      ∃ g : GSign, ∃ p : Nat, Z10 k s (n : Int) false = some (g, (p : Int)) ∧ Z2o k s (n : Int) e = some (g, (p : Int)) ∧ n < p ∧ p ≤ s.size ∧ TokI s n g := by
    intro e _ he hf h33 h59 _ hfig h39
    unfold Z10 Z2o
    rw [if_neg (by decide), b.ifig, obs, hfig, if_neg (by decide), ib, obs, hE, obs, hf, w1]
    subst he
    cases hsy : symb (bt s (n : Int)) with
    | true =>
      have hmk : Zec (bt s (n : Int)) = false := b.sm hsy
      have hlt := stop es3 hsy
      have hps := es3.2.1
      unfold Z2h
      have n40 := h40 hsy (by decide)
      simp only [hmk, if_true, Bool.false_eq_true, if_false, b.sym, hsy, es1, es2, obs]
      rw [Z2k (x := (ps : Int) - (n : Int)) (by omega) (by omega)]
      by_cases c20 : ps - n ≤ 20
      · have h20 : decide ((ps : Int) - (n : Int) ≤ 20) = true := by rw [decide_eq_true_eq]; omega
        rw [if_pos h20, if_pos ⟨by omega, by omega, by omega⟩, near c20 (by omega) hps (.inl rfl)]
        exact ⟨_, _, rfl, rfl, hlt, hps, tk (kd := 1) (by decide) (es _ _ hps) (Int.le_refl 0) (show (0 : Int) ≤ 999999999 by decide) n40⟩
      · have h20 : ¬ decide ((ps : Int) - (n : Int) ≤ 20) = true := by rw [decide_eq_true_eq]; omega
        rw [if_neg h20, Zn9 (by omega) (by omega) hps hz (.inl rfl)]
        exact ⟨_, n + 1, rfl, rfl, by omega, by omega, tk (by decide) (es _ _ (by omega)) (Int.le_refl 0) (show (0 : Int) ≤ 999999999 by decide) n40⟩
    | false =>
      unfold Z22 Z1l
      rw [if_neg (by decide), h33, if_neg (by decide), h59, if_neg (by decide), obs]
      cases hmk : Zec (bt s (n : Int)) with
      | true =>
        have : decide (Lib.indexByte (bs [40, 41, 91, 93, 44, 124]).data.toList (bt s (n : Int)).toNat.toUInt8 ≥ 0) = true := hmk
        rw [if_pos this, if_pos rfl, Zwq hz h]
        exact ⟨_, _, rfl, rfl, by omega, by omega, tkM h hz b hmk⟩
      | false =>
        have : ¬ decide (Lib.indexByte (bs [40, 41, 91, 93, 44, 124]).data.toList (bt s (n : Int)).toNat.toUInt8 ≥ 0) = true := by
          have : Zec (bt s (n : Int)) = false := hmk
          unfold Zec at this
          rw [this]; decide
        rw [if_neg this, if_neg h39, if_neg (by decide), if_neg (by decide), b.sym, obs, hsy, if_neg (by decide), w1, bad hz h (by omega)]
        exact ⟨_, _, rfl, rfl, by omega, by omega, tk (by decide) (es _ _ (by omega)) (Int.le_refl 0) (show (0 : Int) ≤ 999999999 by decide) (fun e => by rw [e] at hmk; cases hmk)⟩
  have F : figb (bt s (n : Int)) = true → fin s n = false → ∃ g : GSign, ∃ p : Nat, Z10 k s (n : Int) false = some (g, (p : Int)) ∧ Z1s k s (n : Int) false = some (g, (p : Int)) ∧ n < p ∧ p ≤ s.size ∧ TokI s n g := by
    intro hf _
    have hlt := stop ef2 hf
    have hps := ef2.2.1
    obtain ⟨i, v, q1, q2, q3, q4⟩ := Zpz hk' hz (p := pf) k n 0 (by omega) (by omega) (by omega) ef2 (by omega) (by omega)
    unfold Z10 Z1s Z3f
    simp only [Bool.false_eq_true, if_false, if_true, b.ifig, b.fig, hf, ef1, obs, q1, q2]
    by_cases c : v ≤ 999999999
    · have cd : decide (v ≤ 999999999) = true := by simpa using c
      rw [if_pos cd, if_pos cd, q3 c]
      exact ⟨_, _, rfl, rfl, hlt, hps, tk (by decide) (show (bs []).size ≤ 3000 by decide) q4 c (h40 hf (by decide))⟩
    · have cd : ¬ decide (v ≤ 999999999) = true := by simpa using c
      rw [if_neg cd, if_neg cd, w1, bad hz h (by omega)]
      exact ⟨_, _, rfl, rfl, by omega, by omega, tk (by decide) (es _ _ (by omega)) (Int.le_refl 0) (show (0 : Int) ≤ 999999999 by decide) (h40 hf (by decide))⟩
  have Q : (bt s (n : Int) == 39) = true → ∃ g : GSign, ∃ p : Nat, Z10 k s (n : Int) false = some (g, (p : Int)) ∧ Z1s k s (n : Int) false = some (g, (p : Int)) ∧ n < p ∧ p ≤ s.size ∧ TokI s n g := by
    intro q39
    have e39 : bt s (n : Int) = 39 := by simpa using q39
    obtain ⟨p, e1, e2, e3, e4⟩ := Zv7 (hq e39) hz h
    have n40 : bt s (n : Int) ≠ 40 := by rw [e39]; decide
    have m39 : ¬ decide (Lib.indexByte (bs [40, 41, 91, 93, 44, 124]).data.toList (bt s (n : Int)).toNat.toUInt8 ≥ 0) = true := by rw [e39]; decide
    have f0 : figb (bt s (n : Int)) = false := by rw [e39]; decide
    have f1 : symb (bt s (n : Int)) = false := by rw [e39]; decide
    have f2 : (bt s (n : Int) == 33) = false := by rw [e39]; decide
    have f3 : (bt s (n : Int) == 59) = false := by rw [e39]; decide
    unfold Z10 Z1s
    rw [if_neg Bool.false_ne_true, if_neg Bool.false_ne_true, b.ifig, b.fig, obs, obs, f0, if_neg Bool.false_ne_true, if_neg Bool.false_ne_true, ib, obs, f1, if_neg Bool.false_ne_true, f2, if_neg Bool.false_ne_true, f3, if_pos q39]
    unfold Z22 Z1l
    rw [if_neg Bool.false_ne_true, obs, if_neg m39, if_pos q39, w1, e1, obs, e2, obs]
    have bd : Z47 k (n : Int) (p : Int) s false = some (GSign.mk 6 (s.extract n (n + 1)) 0 (n : Int) false, ((n + 1 : Nat) : Int)) := by
      unfold Z47
      rw [if_neg (by decide), w1, bad hz h (by omega)]
    have tb : TokI s n (GSign.mk 6 (s.extract n (n + 1)) 0 (n : Int) false) := tk (by decide) (es _ _ (by omega)) (Int.le_refl 0) (show (0 : Int) ≤ 999999999 by decide) n40
    by_cases c : Zjo s n p = true
    · have c' := c
      unfold Zjo at c'
      obtain ⟨c1, c2, c3, c4⟩ := of_decide_eq_true c'
      have w2 : wr.i64 ((p : Int) - (n : Int)) = (p : Int) - (n : Int) := Z2k (by omega) (by omega)
      have w3 : wr.i64 ((p : Int) - (n : Int) - 1) = (p : Int) - (n : Int) - 1 := Z2k (by omega) (by omega)
      have w4 : wr.i64 (((p + 1 : Nat) : Int) - 1) = (p : Int) := by rw [Z2k (by omega) (by omega)]; omega
      rw [if_pos (lt_t c1), if_pos (idx c1), if_pos (by simpa using c2), w2, w3, Zes, obs, Zvq ⟨by omega, by omega⟩, if_pos c, if_pos (show decide (((p + 1 : Nat) : Int) > 0) = true by rw [decide_eq_true_eq]; omega), w4, if_pos ⟨by omega, by omega, by omega⟩]
      unfold Z47
      rw [if_pos rfl, w1, if_pos ⟨by omega, by omega, by omega⟩, Z90 (show p ≤ 3000 by omega)]
      exact ⟨_, p + 1, rfl, rfl, by omega, by omega, tk (by decide) (es _ _ (by omega)) (Int.le_refl 0) (show (0 : Int) ≤ 999999999 by decide) n40⟩
    · rw [if_neg c, if_neg (show ¬ decide ((0 : Int) > 0) = true by decide)]
      refine ⟨_, n + 1, ?_, rfl, by omega, by omega, tb⟩
      by_cases c1 : p < s.size
      · rw [if_pos (lt_t c1), if_pos (idx c1)]
        by_cases c2 : bt s (p : Int) = 39
        · have w2 : wr.i64 ((p : Int) - (n : Int)) = (p : Int) - (n : Int) := Z2k (by omega) (by omega)
          have w3 : wr.i64 ((p : Int) - (n : Int) - 1) = (p : Int) - (n : Int) - 1 := Z2k (by omega) (by omega)
          rw [if_pos (by simpa using c2), w2, w3, Zes, obs, Zvr (fun hh => c (by unfold Zjo; rw [decide_eq_true_eq]; exact ⟨c1, c2, by omega, by omega⟩)), bd]; rfl
        · rw [if_neg (by simpa using c2), bd]; rfl
      · rw [if_neg (lt_f c1), bd]; rfl
  have S : Z83 k s (n : Int) = Z1s k s (n : Int) (Z6v (bt s (n : Int)) || Z9k (bt s (n : Int))) := by
    unfold Z83
    rw [if_pos (idx h), w1, if_pos ⟨by omega, by omega, by omega⟩, b.small, obs, b.great]
    cases Z6v (bt s (n : Int)) with
    | true => rfl
    | false => rw [if_neg (by decide), obs]; rfl
  have I : fin s n = false → Z48 k s (n : Int) = Z10 k s (n : Int) (Z6v (bt s (n : Int)) || Z9k (bt s (n : Int))) := by
    intro hf
    unfold Z48
    rw [if_pos (idx h), hI, obs, hf, if_neg (by decide), b.ismall, obs, hup, obs]
    unfold Z9k
    cases Z6v (bt s (n : Int)) with
    | true => rfl
    | false => cases decide (65 ≤ bt s (n : Int) ∧ bt s (n : Int) ≤ 90) <;> rfl
  have M : ¬ (bt s (n : Int) == 39) = true → figb (bt s (n : Int)) = false → (bt s (n : Int) == 33) = false → (bt s (n : Int) == 59) = false → Z1s k s (n : Int) false = Z2o k s (n : Int) (Zec (bt s (n : Int))) := by
    intro h39 hf h33 h59
    unfold Z1s Z44
    rw [b.mark]
    simp only [Bool.false_eq_true, if_false, b.fig, hf, obs, if_neg h39, h33, h59]
    cases bt s (n : Int) == 40 <;> cases bt s (n : Int) == 41 <;> cases bt s (n : Int) == 91 <;> cases bt s (n : Int) == 93 <;> cases bt s (n : Int) == 44 <;> rfl
  cases hf : fin s n with
  | true =>
    have h46 : bt s (n : Int) = 46 := by
      unfold fin at hf
      simp only [Bool.and_eq_true, beq_iff_eq] at hf
      exact hf.1
    refine ⟨GSign.mk 5 (bs [46]) 0 (n : Int) false, n + 1, ?_, ?_, by omega, by omega, tk (by decide) (show (bs [46]).size ≤ 3000 by decide) (Int.le_refl 0) (show (0 : Int) ≤ 999999999 by decide) (by rw [h46]; decide)⟩
    · unfold Z48
      rw [if_pos (idx h), hI, obs, hf, if_pos rfl, w1]
    · rw [S, h46, show (Z6v 46 || Z9k 46) = false from rfl, M (by rw [h46]; decide) (by rw [h46]; rfl) (by rw [h46]; rfl) (by rw [h46]; rfl), h46, show Zec 46 = false from by decide]
      unfold Z2o
      rw [if_neg (by decide), hE, obs, hf, if_pos rfl, w1]
      show some (GSign.mk 5 (s.extract n (n + 1)) 0 (n : Int) false, _) = _
      rw [Zaz (c := 46) h h46]
  | false =>
    rw [I hf, S]
    cases hsm : Z6v (bt s (n : Int)) with
    | true => exact W (.inl hsm)
    | false =>
      cases hgr : Z9k (bt s (n : Int)) with
      | true => exact W (.inr hgr)
      | false =>
        show ∃ g : GSign, ∃ p : Nat, Z10 k s (n : Int) false = some (g, (p : Int)) ∧ Z1s k s (n : Int) false = some (g, (p : Int)) ∧ n < p ∧ p ≤ s.size ∧ TokI s n g
        cases hfg : figb (bt s (n : Int)) with
        | true => exact F hfg hf
        | false =>
          by_cases q39 : (bt s (n : Int) == 39) = true
          · exact Q q39
          have h39 : ¬ (bt s (n : Int) == 39) = true := q39
          by_cases h33 : bt s (n : Int) = 33 ∨ bt s (n : Int) = 59
          · refine ⟨GSign.mk 1 (s.extract n (n + 1)) 0 (n : Int) false, n + 1, ?_, ?_, by omega, by omega, tk (by decide) (es _ _ (by omega)) (Int.le_refl 0) (show (0 : Int) ≤ 999999999 by decide) (by rcases h33 with q | q <;> rw [q] <;> decide)⟩
            · have hsy : symb (bt s (n : Int)) = false := by rcases h33 with q | q <;> rw [q] <;> decide
              have hx : (if (bt s (n : Int) == 33) = true then Z22 k (n : Int) s true else Z22 k (n : Int) s (bt s (n : Int) == 59)) = Z22 k (n : Int) s true := by
                rcases h33 with q | q <;> rw [q] <;> rfl
              unfold Z10
              rw [if_neg (by decide), b.ifig, obs, hfg, if_neg (by decide), ib, obs, hsy, if_neg (by decide), hx]
              unfold Z22
              rw [if_pos rfl, w1, near (by omega) (by omega) (by omega) (.inl rfl)]
            · unfold Z1s
              have hx : (if (bt s (n : Int) == 33) = true then Z44 k s (n : Int) true else Z44 k s (n : Int) (bt s (n : Int) == 59)) = Z44 k s (n : Int) true := by
                rcases h33 with q | q <;> rw [q] <;> rfl
              rw [if_neg (by decide), b.fig, obs, hfg, if_neg (by decide), if_neg h39, hx]
              unfold Z44
              rw [if_pos rfl, w1]; rfl
          · have a33 : (bt s (n : Int) == 33) = false := by rw [beq_eq_false_iff_ne]; exact fun q => h33 (.inl q)
            have a59 : (bt s (n : Int) == 59) = false := by rw [beq_eq_false_iff_ne]; exact fun q => h33 (.inr q)
            rw [M h39 hfg a33 a59]
            exact J4 _ hsm rfl hf a33 a59 hgr hfg h39
theorem Zsl {k : Nat} {s : ByteArray} (hs : s.size ≤ 3000) : ∀ (m n : Nat), n ≤ s.size → s.size - n < m → ∃ p : Nat, Z6n k s m (n : Int) = some (.done (p : Int)) ∧ Zw k s m (n : Int) = some (.done (p : Int)) ∧ n ≤ p ∧ p ≤ s.size ∧ (n < s.size → bt s (n : Int) ≠ 10 → n < p)
  | 0, n, h1, h2 => by omega
  | m + 1, n, h1, h2 => by
    rw [Z6n, Zw]
    by_cases hlt : n < s.size
    · unfold Z7d
      rw [if_pos (lt_t hlt), if_pos (lt_t hlt), if_pos (idx hlt), if_pos (idx hlt), obs]
      cases h10 : (bt s (n : Int) != 10) with
      | true =>
        rw [if_pos rfl, if_pos rfl, Z90 (by omega)]
        obtain ⟨p, e1, e2, e3, e4, _⟩ := Zsl hs m (n + 1) (by omega) (by omega)
        exact ⟨p, e1, e2, by omega, e4, fun _ _ => by omega⟩
      | false =>
        rw [if_neg (by decide), if_neg (by decide)]
        exact ⟨n, rfl, rfl, Nat.le_refl _, h1, fun _ h => by simp at h10; exact absurd h10 h⟩
    · rw [if_neg (lt_f hlt), if_neg (lt_f hlt)]
      exact ⟨n, rfl, rfl, Nat.le_refl _, h1, fun h => absurd h hlt⟩
structure RowI (s : ByteArray) (n : Nat) (g : List GSign) : Prop where
  tk : ∀ x ∈ g, (x.gKind = 4 → x.gText ∈ Zo5) ∧ x.gText.size ≤ 3000 ∧ 0 ≤ x.gNum ∧ x.gNum ≤ 999999999
  nr : ∀ (i : Nat) (x : GSign), g[i]? = some x → x.gNear = true → (∃ y : GSign, g[i + 1]? = some y ∧ y.gKind = 4 ∧ y.gText = bs [40]) ∨ (i + 1 = g.length ∧ n < s.size ∧ bt s (n : Int) = 40)
theorem RowI.skip {s : ByteArray} {n p : Nat} {g : List GSign} (h : RowI s n g) (h40 : bt s (n : Int) ≠ 40) : RowI s p g :=
  ⟨h.tk, fun i x h1 h2 => (h.nr i x h1 h2).elim .inl fun q => absurd q.2.2 h40⟩
theorem RowI.next {s : ByteArray} {n p : Nat} {g : List GSign} {x : GSign} {e : Bool} (h : RowI s n g) (hx : TokI s n x) (he : e = true → p < s.size ∧ bt s (p : Int) = 40) : RowI s p (g ++ [GSign.mk x.gKind x.gText x.gNum x.gAt e]) := by
  refine ⟨fun y hy => ?_, fun i y h1 h2 => ?_⟩
  · rcases List.mem_append.1 hy with hy | hy
    · exact h.tk y hy
    · rw [List.mem_singleton.1 hy]; exact ⟨hx.mm, hx.sz, hx.n0, hx.n9⟩
  · rcases Nat.lt_trichotomy i g.length with q | q | q
    · rw [List.getElem?_append_left q] at h1
      left
      rcases h.nr i y h1 h2 with ⟨z, z1, z2, z3⟩ | ⟨q1, q2, q3⟩
      · exact ⟨z, by rw [List.getElem?_append_left (List.getElem?_eq_some_iff.1 z1).1]; exact z1, z2, z3⟩
      · obtain ⟨o1, o2⟩ := hx.op q3
        exact ⟨GSign.mk x.gKind x.gText x.gNum x.gAt e, by rw [q1, List.getElem?_append_right (Nat.le_refl _), Nat.sub_self]; rfl, o1, o2⟩
    · subst q
      rw [List.getElem?_append_right (Nat.le_refl _), Nat.sub_self] at h1
      have h1 : GSign.mk x.gKind x.gText x.gNum x.gAt e = y := oInj h1
      subst h1
      obtain ⟨p1, p2⟩ := he h2
      exact .inr ⟨by simp, p1, p2⟩
    · rw [List.getElem?_eq_none (by rw [List.length_append, List.length_singleton]; omega)] at h1
      cases h1
theorem RowI.nil {s : ByteArray} {n : Nat} : RowI s n [] := ⟨fun x hx => (by cases hx), fun i x hx => (by simp at hx)⟩
theorem Z8p {k : Nat} (hk : 3100 ≤ k) {s : ByteArray} (hz : s.size ≤ 3000) (hq : ∀ n : Nat, bt s (n : Int) = 39 → n < s.size → 4000 < k - maxLen) : ∀ (m n : Nat) (g : List GSign), n ≤ s.size → s.size - n < m → g.length ≤ n → RowI s n g →
    ∃ g', Z2e k s m g (n : Int) = some (.done g') ∧ Z1b k s m g (n : Int) = some (.done g') ∧ g'.length ≤ s.size ∧ ∃ p, s.size ≤ p ∧ RowI s p g'
  | 0, n, g, h1, h2, h3, h4 => by omega
  | m + 1, n, g, h1, h2, h3, h4 => by
    by_cases hlt : n < s.size
    · have hle : ∀ z : GSign, g.length + [z].length ≤ 1073741824 := fun z => by simp only [List.length_cons, List.length_nil]; omega
      have blank : ∀ (x : Int), bt s (n : Int) = x → x ≠ 40 → RowI s (n + 1) g := fun x e hx => h4.skip (by rw [e]; exact hx)
      have stepS : ∀ b : Bool, Z2p k (bt s (n : Int)) = some b → b = true → Z2e k s (m + 1) g (n : Int) = Z2e k s m g ((n + 1 : Nat) : Int) := fun b e eb => by
        rw [Z2e, if_pos (lt_t hlt), if_pos (idx hlt), e, obs, if_pos eb, Z90 (by omega)]
      have J2t : Z3z k (Z1b k s m) g (n : Int) s true = Z1b k s m g ((n + 1 : Nat) : Int) := by
        unfold Z3z
        rw [if_pos rfl, Z90 (by omega)]
      cases c32 : (bt s (n : Int) == 32) with
      | true =>
        have e32 : bt s (n : Int) = 32 := by simpa using c32
        rw [stepS true (by unfold Z2p; rw [c32, if_pos rfl]) rfl, Z1b, if_pos (lt_t hlt), if_pos (idx hlt), c32, if_pos rfl, J2t]
        exact Z8p hk hz hq m (n + 1) g (by omega) (by omega) (by omega) (blank 32 e32 (by decide))
      | false =>
        cases c9 : (bt s (n : Int) == 9) with
        | true =>
          have e9 : bt s (n : Int) = 9 := by simpa using c9
          rw [stepS true (by unfold Z2p; rw [c32, if_neg Bool.false_ne_true, c9, if_pos rfl]) rfl, Z1b, if_pos (lt_t hlt), if_pos (idx hlt), c32, if_neg Bool.false_ne_true, c9, if_pos rfl, J2t]
          exact Z8p hk hz hq m (n + 1) g (by omega) (by omega) (by omega) (blank 9 e9 (by decide))
        | false =>
          cases c10 : (bt s (n : Int) == 10) with
          | true =>
            have e10 : bt s (n : Int) = 10 := by simpa using c10
            rw [stepS true (by unfold Z2p; rw [c32, if_neg Bool.false_ne_true, c9, if_neg Bool.false_ne_true, c10]) rfl, Z1b, if_pos (lt_t hlt), if_pos (idx hlt), c32, if_neg Bool.false_ne_true, c9, if_neg Bool.false_ne_true, c10, J2t]
            exact Z8p hk hz hq m (n + 1) g (by omega) (by omega) (by omega) (blank 10 e10 (by decide))
          | false =>
            have hb : Z2p k (bt s (n : Int)) = some false := by unfold Z2p; rw [c32, if_neg Bool.false_ne_true, c9, if_neg Bool.false_ne_true, c10]
            rw [Z2e, Z1b, if_pos (lt_t hlt), if_pos (lt_t hlt), if_pos (idx hlt), if_pos (idx hlt), hb, obs, if_neg Bool.false_ne_true, if_pos (idx hlt), c32, if_neg Bool.false_ne_true, c9, if_neg Bool.false_ne_true, c10]
            unfold Z3z
            rw [if_neg Bool.false_ne_true]
            by_cases h37 : (bt s (n : Int) == 37) = true
            · obtain ⟨p, r1, r2, r3, r4, r5⟩ := Zsl (k := k) hz k n h1 (by omega)
              have e37 : bt s (n : Int) = 37 := by simpa using h37
              have r5 := r5 hlt (by rw [e37]; decide)
              unfold Z2m
              rw [if_pos h37, if_pos h37, r1, r2, obs, obs]
              exact Z8p hk hz hq m p g r4 (by omega) (by omega) (h4.skip (by rw [e37]; decide))
            · obtain ⟨q, p, e1, e2, hp, hps, ht⟩ := sign hk hz hlt (fun e => hq n e hlt)
              rw [if_neg h37, if_neg h37, e1, e2, obs, obs]
              simp only
              by_cases hlp : p < s.size
              · rw [if_pos (lt_t hlp), if_pos (lt_t hlp), if_pos (idx hlp), if_pos (idx hlp), if_pos (hle _), if_pos (hle _)]
                exact Z8p hk hz hq m p _ hps (by omega) (by simp only [List.length_append, List.length_cons, List.length_nil]; omega) (h4.next ht fun e => ⟨hlp, by simpa using e⟩)
              · rw [if_neg (lt_f hlp), if_neg (lt_f hlp), if_pos (hle _), if_pos (hle _)]
                exact Z8p hk hz hq m p _ hps (by omega) (by simp only [List.length_append, List.length_cons, List.length_nil]; omega) (h4.next ht fun e => by cases e)
    · rw [Z2e, Z1b, if_neg (lt_f hlt), if_neg (lt_f hlt)]
      exact ⟨g, rfl, rfl, by omega, n, by omega, h4⟩
theorem no39 {s : ByteArray} (hs : nmOk s) {P : Prop} : ∀ n : Nat, bt s (n : Int) = 39 → n < s.size → P := fun n e h => absurd e (hs.1 n h).2.2.1
theorem Zsd {k : Nat} (hk : 3100 ≤ k) {s : ByteArray} (hs : nmOk s) : ∃ r, Z4s k s = some r ∧ Z3c k s = some r ∧ r.size ≤ 22 := by
  have hz := hs.2.2
  obtain ⟨g, e1, e2, _⟩ := Z8p hk (by omega) (no39 hs) k 0 [] (by omega) (by omega) (by simp) RowI.nil
  rw [show ((0 : Nat) : Int) = 0 from rfl] at e1 e2
  have f1 : Z71 k s = some (g, true) := by
    unfold Z71
    rw [if_neg (by rw [decide_eq_true_eq]; omega), e1]; rfl
  have f2 : Z65 k s = some (g, true) := by
    unfold Z65
    rw [if_neg (by rw [decide_eq_true_eq]; omega), e2]; rfl
  have z1 : (bs [39]).size = 1 := by decide
  have s1 : Z11 (bs [39]) s := by unfold Z11; omega
  have s2 : Z11 (bs [39] ++ s) (bs [39]) := by unfold Z11; rw [ByteArray.size_append]; omega
  have hq : (bs [39] ++ s ++ bs [39]).size ≤ 22 := by rw [ByteArray.size_append, ByteArray.size_append]; omega
  unfold Z4s Z3c
  rw [f1, f2, obs, obs]
  simp only [if_pos s1, if_pos s2, if_true]
  by_cases hl : g.length = 1
  · have hl' : ((g.length : Int) == 1) = true := by rw [beq_iff_eq]; omega
    rw [if_pos hl']
    have a0 : at' g 0 = some g[0] := Z7r (n := 0) (by omega)
    simp only [a0, obs]
    split
    · split
      · exact ⟨_, rfl, rfl, by omega⟩
      · exact ⟨_, rfl, rfl, hq⟩
    · exact ⟨_, rfl, rfl, hq⟩
  · have hl' : ¬ ((g.length : Int) == 1) = true := by rw [beq_iff_eq]; omega
    rw [if_neg hl']
    exact ⟨_, rfl, rfl, hq⟩
theorem L4K {kA kB : Nat} {s : ByteArray} {p : Nat} (hp : p ≤ s.size) (hs : s.size ≤ 20) : ∀ (mA mB n : Nat) (v : Int), n ≤ p → p - n < mA → p - n < mB → Z31 kA (p : Int) s mA v (n : Int) = Z31 kB (p : Int) s mB v (n : Int)
  | 0, mB, n, v, h0, h1, h2 => by omega
  | mA + 1, 0, n, v, h0, h1, h2 => by omega
  | mA + 1, mB + 1, n, v, h0, h1, h2 => by
    rw [Z31, Z31]
    by_cases hlt : n < p
    · have hd : decide ((n : Int) < (p : Int)) = true := by simpa using hlt
      rw [if_pos hd, if_pos hd, Z90 (by omega), L4K hp hs mA mB (n + 1) _ (by omega) (by omega) (by omega)]
    · have hd : ¬ decide ((n : Int) < (p : Int)) = true := by simpa using hlt
      rw [if_neg hd, if_neg hd]
theorem Zwo {kA kB : Nat} (hA : 3100 ≤ kA) (hB : 3100 ≤ kB) {s : ByteArray} (hs : nmOk s) {n : Nat} (h : n < s.size) : Z48 kA s (n : Int) = Z48 kB s (n : Int) := by
  have hz := hs.2.2
  obtain ⟨pw, _, a1, a2⟩ := Zrb (k := kA) (s := s) (by omega) (by omega) kA n (by omega) (by omega)
  obtain ⟨pw', _, b1, b2⟩ := Zrb (k := kB) (s := s) (by omega) (by omega) kB n (by omega) (by omega)
  obtain rfl := a2.uniq b2
  obtain ⟨ps, _, c1, c2⟩ := Zi3 (k := kA) (s := s) (by omega) (by omega) kA n (by omega) (by omega)
  obtain ⟨ps', _, d1, d2⟩ := Zi3 (k := kB) (s := s) (by omega) (by omega) kB n (by omega) (by omega)
  obtain rfl := c2.uniq d2
  obtain ⟨pf, e1, e2⟩ := Zj2 (k := kA) (s := s) (by omega) (by omega) kA n (by omega) (by omega)
  obtain ⟨pf', f1, f2⟩ := Zj2 (k := kB) (s := s) (by omega) (by omega) kB n (by omega) (by omega)
  obtain rfl := e2.uniq f2
  have g1 := L4K (kA := kA) (kB := kB) (p := pf) (s := s) e2.2.1 hz kA kB n 0 e2.1 (by have := e2.2.1; omega) (by have := e2.2.1; omega)
  have h39 : ¬ (bt s (n : Int) == 39) = true := by rw [beq_iff_eq]; exact (hs.1 n h).2.2.1
  have J5 : ∀ e, Z22 kA (n : Int) s e = Z22 kB (n : Int) s e := fun e => by
    unfold Z22
    simp only [if_neg h39]
    rfl
  have J3 : ∀ e, Z10 kA s (n : Int) e = Z10 kB s (n : Int) e := fun e => by
    unfold Z10 Z2u Z3f Z2h
    simp only [a1, b1, c1, d1, e1, f1, obs, g1, J5]
    rfl
  unfold Z48
  simp only [J3]
  rfl
theorem Zv5 {kA kB : Nat} {s : ByteArray} (hs : s.size ≤ 3000) : ∀ (mA mB n : Nat), n ≤ s.size → s.size - n < mA → s.size - n < mB → ∃ p : Nat, Zw kA s mA (n : Int) = some (.done (p : Int)) ∧ Zw kB s mB (n : Int) = some (.done (p : Int)) ∧ n ≤ p ∧ p ≤ s.size ∧ (n < s.size → bt s (n : Int) ≠ 10 → n < p)
  | 0, mB, n, h1, h2, h3 => by omega
  | mA + 1, 0, n, h1, h2, h3 => by omega
  | mA + 1, mB + 1, n, h1, h2, h3 => by
    rw [Zw, Zw]
    by_cases hlt : n < s.size
    · unfold Z7d
      rw [if_pos (lt_t hlt), if_pos (lt_t hlt), if_pos (idx hlt), if_pos (idx hlt), obs, obs]
      cases h10 : (bt s (n : Int) != 10) with
      | true =>
        rw [if_pos rfl, if_pos rfl, Z90 (by omega)]
        obtain ⟨p, e1, e2, e3, e4, _⟩ := Zv5 hs mA mB (n + 1) (by omega) (by omega) (by omega)
        exact ⟨p, e1, e2, by omega, e4, fun _ _ => by omega⟩
      | false =>
        rw [if_neg (by decide), if_neg (by decide)]
        exact ⟨n, rfl, rfl, Nat.le_refl _, h1, fun _ h => by simp at h10; exact absurd h10 h⟩
    · rw [if_neg (lt_f hlt), if_neg (lt_f hlt)]
      exact ⟨n, rfl, rfl, Nat.le_refl _, h1, fun h => absurd h hlt⟩
theorem Zmw {kA kB : Nat} (hA : 3100 ≤ kA) (hB : 3100 ≤ kB) {s : ByteArray} (hs : nmOk s) : ∀ (mA mB n : Nat) (g : List GSign), n ≤ s.size → s.size - n < mA → s.size - n < mB → Z1b kA s mA g (n : Int) = Z1b kB s mB g (n : Int)
  | 0, mB, n, g, h1, h2, h3 => by omega
  | mA + 1, 0, n, g, h1, h2, h3 => by omega
  | mA + 1, mB + 1, n, g, h1, h2, h3 => by
    have hz := hs.2.2
    rw [Z1b, Z1b]
    by_cases hlt : n < s.size
    · have hg := hs.1 n hlt
      have h32 : (bt s (n : Int) == 32) = false := by rw [beq_eq_false_iff_ne]; have := hg.1; omega
      have h9 : (bt s (n : Int) == 9) = false := by rw [beq_eq_false_iff_ne]; have := hg.1; omega
      have h10 : (bt s (n : Int) == 10) = false := by rw [beq_eq_false_iff_ne]; have := hg.1; omega
      rw [if_pos (lt_t hlt), if_pos (lt_t hlt), if_pos (idx hlt), if_pos (idx hlt)]
      simp only [h32, h9, h10, Bool.false_eq_true, if_false]
      unfold Z3z
      simp only [Bool.false_eq_true, if_false]
      by_cases h37 : (bt s (n : Int) == 37) = true
      · obtain ⟨p, r1, r3, r5⟩ := Zv5 (kA := kA) (kB := kB) (by omega : s.size ≤ 3000) kA kB n h1 (by omega) (by omega)
        unfold Z2m
        rw [if_pos h37, if_pos h37, r1, r3]
        simp only [obs]
        have e37 : bt s (n : Int) = 37 := by simpa using h37
        have r6 := r5.2.2 hlt (by rw [e37]; decide)
        exact Zmw hA hB hs mA mB p g r5.2.1 (by omega) (by omega)
      · obtain ⟨q, p, e1, _, hp, hps, _⟩ := sign hB (by omega) hlt (fun e => absurd e (hs.1 n hlt).2.2.1)
        rw [if_neg h37, if_neg h37, Zwo hA hB hs hlt, e1, obs, obs]
        simp only
        by_cases hlp : p < s.size
        · rw [if_pos (lt_t hlp), if_pos (lt_t hlp), if_pos (idx hlp), if_pos (idx hlp), Zmw hA hB hs mA mB p _ hps (by omega) (by omega)]
        · rw [if_neg (lt_f hlp), if_neg (lt_f hlp), Zmw hA hB hs mA mB p _ hps (by omega) (by omega)]
    · rw [if_neg (lt_f hlt), if_neg (lt_f hlt)]
theorem Zwu {kA kB : Nat} (hA : 3100 ≤ kA) (hB : 3100 ≤ kB) {s : ByteArray} (hs : nmOk s) : Z3c kA s = Z3c kB s := by
  have hz := hs.2.2
  have e := Zmw hA hB hs kA kB 0 [] (by omega) (by omega) (by omega)
  rw [show ((0 : Nat) : Int) = 0 from rfl] at e
  unfold Z3c Z65
  rw [e]
theorem Zue {kA kB : Nat} (hA : 3100 ≤ kA) (hB : 3100 ≤ kB) {s : ByteArray} (hs : nmOk s) : ∃ r, Z4s kB s = some r ∧ Z3c kA s = some r ∧ r.size ≤ 22 := by
  obtain ⟨r, e1, e2, e3⟩ := Zsd hB hs
  exact ⟨r, e1, (Zwu hA hB hs).trans e2, e3⟩
def decB (n : Nat) : ByteArray := ⟨(Lib.decDigits n).toArray⟩
theorem Zuq (b : Nat) (h : b < 10) : strOfNums [((48 + b : Nat) : Int)] = bs [UInt8.ofNat (48 + b)] := by
  have : ∀ b, b < 10 → strOfNums [((48 + b : Nat) : Int)] = bs [UInt8.ofNat (48 + b)] := by decide +kernel
  exact this b h
theorem Zuk {x : Int} (h1 : 0 ≤ x) (h2 : x ≤ 255) : wr.u8 x = x := by
  unfold wr.u8 IntKind.wrap
  simp [IntKind.signed, IntKind.bits]
  omega
theorem Zbg {n : Nat} (h : n < 10) : decB n = bs [UInt8.ofNat (48 + n)] := by
  unfold decB
  rw [Lib.decDigits, dif_pos h]; rfl
theorem Zno {n : Nat} (h : ¬ n < 10) : decB n = decB (n / 10) ++ bs [UInt8.ofNat (48 + n % 10)] := by
  unfold decB
  rw [Lib.decDigits, dif_neg h]
  apply ByteArray.ext
  simp [bs]
theorem Zki : ∀ (j n : Nat), n < 10 ^ (j + 1) → (decB n).size ≤ j + 1
  | 0, n, h => by rw [Zbg (by simpa using h)]; exact Nat.le_refl _
  | j + 1, n, h => by
    by_cases c : n < 10
    · rw [Zbg c, show (bs [UInt8.ofNat (48 + n)]).size = 1 from rfl]; omega
    · have := Zki j (n / 10) (by rw [Nat.pow_succ] at h; omega)
      rw [Zno c, ByteArray.size_append, show (bs [UInt8.ofNat (48 + n % 10)]).size = 1 from rfl]; omega
theorem Zt3 {k : Nat} : ∀ (j m n : Nat) (s : ByteArray), n < 10 ^ j → j < m → j ≤ 12 → s.size + j ≤ 100 → 0 < n → Z45 k m (n : Int) s = some (.done (decB n ++ s))
  | 0, m, n, s, h1, h2, _, _, h0 => by simp at h1; omega
  | j + 1, 0, n, s, h1, h2, _, _, h0 => by omega
  | j + 1, m + 1, n, s, h1, h2, h3, h4, h0 => by
    have hp : 10 ^ j ≤ 10 ^ 11 := Nat.pow_le_pow_right (by decide) (by omega)
    rw [Nat.pow_succ] at h1
    have hn : (n : Int) ≤ 1000000000000 := by omega
    have t1 : Int.tmod (n : Int) 10 = ((n % 10 : Nat) : Int) := by rw [Int.tmod_eq_emod_of_nonneg (by omega)]; rfl
    have t2 : Int.tdiv (n : Int) 10 = ((n / 10 : Nat) : Int) := by rw [Int.tdiv_eq_ediv_of_nonneg (by omega)]; rfl
    have hne : ((n : Int) != 0) = true := by rw [bne_iff_ne]; omega
    have hnn : ¬ decide (Int.tmod (n : Int) 10 < 0) = true := by rw [t1, decide_eq_true_eq]; omega
    have hlt : decide (((n % 10 : Nat) : Int) < 10) = true := by rw [decide_eq_true_eq]; omega
    rw [Z45, if_pos hne, if_pos (by decide), if_neg hnn]
    unfold Z7z Z8t
    rw [t1, if_pos hlt, obs, Z2k (by omega) (by omega), Zuk (by omega) (by omega), show (48 + ((n % 10 : Nat) : Int)) = ((48 + n % 10 : Nat) : Int) by omega, Zuq _ (by omega), t2, Z2k (by omega) (by omega)]
    have z : (bs [UInt8.ofNat (48 + n % 10)]).size = 1 := rfl
    rw [if_pos (by unfold Z11; omega), if_pos (by decide)]
    by_cases c : n < 10
    · have hq : n / 10 = 0 := by omega
      obtain ⟨m, rfl⟩ : ∃ q, m = q + 1 := ⟨m - 1, by omega⟩
      rw [hq, Z45, if_neg (by decide), Zbg c, show n % 10 = n by omega]
    · rw [Zt3 j m (n / 10) _ (by omega) (by omega) (by omega) (by rw [ByteArray.size_append]; omega) (by omega), Zno c, ByteArray.append_assoc]
theorem Zmc {k : Nat} (hk : 100 ≤ k) {n : Nat} (h : n ≤ 999999999) : Z72 k (n : Int) = some (decB n) ∧ (decB n).size ≤ 9 := by
  refine ⟨?_, Zki 8 n (by omega)⟩
  unfold Z72
  by_cases c : n = 0
  · subst c; rw [if_pos (by decide), Zbg (by decide)]; rfl
  · have hne : ¬ ((n : Int) == 0) = true := by rw [beq_iff_eq]; omega
    have hnn : ¬ decide ((n : Int) < 0) = true := by rw [decide_eq_true_eq]; omega
    rw [if_neg hne, Zt3 9 k n (bs []) (by omega) (by omega) (by omega) (by decide) (by omega), obs]
    simp only
    rw [if_neg hnn]
    congr 1
    apply ByteArray.ext
    simp [bs]
theorem Zqb {k : Nat} {n : Nat} (h : n ≤ 999999999) : Z67 k (n : Int) = some (decB n) := by
  unfold Z67 Z7x Lib.itoa decB
  rw [if_pos (by omega), obs, if_neg (by omega), Int.toNat_natCast]
theorem Zu1 {k : Nat} {n : Nat} (h : n ≤ 999999999) (h0 : 0 < n) : Z67 k (-(n : Int)) = some (bs [45] ++ decB n) := by
  unfold Z67 Z7x Lib.itoa decB
  rw [if_pos (by omega), obs, if_pos (by omega), Int.natAbs_neg, Int.natAbs_natCast]
  refine congrArg some ?_
  apply ByteArray.ext
  simp [bs]
theorem Zfw : @Z66 = @Z1u := by kernel_rfl
theorem Zh9 : @Z6y = @Z2y := by kernel_rfl
theorem Zka : @Z9w = @Za0 := by kernel_rfl
theorem Zft (s : ByteArray) : Z5w [] s = bs [] := rfl
theorem Zqa (xs : List (List UInt8)) (x sep : List UInt8) (h : xs ≠ []) : Lib.join (xs ++ [x]) sep = Lib.join xs sep ++ (sep ++ x) := by
  cases xs with
  | nil => exact absurd rfl h
  | cons y ys =>
    rw [List.cons_append, Lib.join_cons, Lib.join_cons]
    unfold Lib.joinTail
    simp
theorem Zo9 (xs : List ByteArray) (x s : ByteArray) (h : xs ≠ []) : Z5w (xs ++ [x]) s = Z5w xs s ++ (s ++ x) := by
  unfold Z5w
  rw [List.map_append, List.map_cons, List.map_nil, Zqa _ _ _ (by simpa using h)]
  apply ByteArray.ext
  simp
theorem Zfs (x s : ByteArray) : Z5w [x] s = x := by
  unfold Z5w
  rw [List.map_cons, List.map_nil, Lib.join_one]
def pr (x : GTerm) : Bool := (x.gKind == 4) && (sEq x.gName (bs [46]) && ((x.gKids.length : Int) == 2))
theorem isPr {k : Nat} {x : GTerm} : Za0 k x (bs [46]) 2 = some (pr x) := by
  unfold Za0 pr
  cases x.gKind == 4 <;> cases sEq x.gName (bs [46]) <;> rfl
theorem Zsy {k : Nat} {x : GTerm} : Z9c k x = some (pr x) := by
  unfold Z9c
  rw [Zka, isPr]; rfl
theorem Zsp {x : GTerm} (h : pr x = true) : ∃ a b, x.gKids = [a, b] ∧ nT x = 2 + nT a + nT b := by
  unfold pr at h
  simp only [Bool.and_eq_true, beq_iff_eq] at h
  have hl : x.gKids.length = 2 := by omega
  match hk : x.gKids, hl with
  | [a, b], _ => exact ⟨a, b, rfl, by rw [Z6p, hk]; simp [nsum]; omega⟩
theorem Zhn {x : GTerm} {d : Int} (h : gT d x = true) {y : GTerm} (hy : y ∈ x.gKids) : gT (d + 1) y = true := by
  rw [Zoc] at h
  simp only [Bool.and_eq_true] at h
  have : ∀ (l : List GTerm) (d : Int), gTs d l = true → ∀ y ∈ l, gT d y = true := by
    intro l
    induction l with
    | nil => intro d _ y hy; cases hy
    | cons x l ih =>
      intro d h y hy
      rw [gTs, Bool.and_eq_true] at h
      cases hy with
      | head => exact h.1
      | tail _ hy => exact ih d h.2 y hy
  exact this _ _ h.2.2 y hy
theorem so {a b : ByteArray} (h : a.size + b.size ≤ 1000000) : Z11 a b := by unfold Z11; omega
def Both (W V : GTerm → Option ByteArray) (N : Nat) : Prop := ∀ (y : GTerm) (d : Int), gT d y = true → nT y ≤ N → ∃ r, W y = some r ∧ V y = some r ∧ r.size ≤ 120 * (nT y + 1)
theorem z1 (b : UInt8) : (bs [b]).size = 1 := rfl
theorem row {kA kB N : Nat} {W V R X : GTerm → Option ByteArray} (H : Both W V N) : ∀ (mA mB : Nat) (t : GTerm) (d : Int) (s : ByteArray) (a b : GTerm), gT d t = true → t.gKids = [a, b] → nT t = 2 + nT a + nT b → nT b ≤ N → nT b < mA → nT b < mB → s.size + 120 * nT b ≤ 500000 →
    ∃ s' t' b', Z7g kB R V mB s t = some (.done (s', t')) ∧ Zt kA W X mA s b = some (.done (s', b')) ∧ at' t'.gKids 1 = some b' ∧ nT b' ≤ N ∧ (∃ e, gT e b' = true) ∧ s'.size + 120 * nT b' ≤ s.size + 120 * nT b
  | 0, mB, t, d, s, a, b, h1, h2, h3, h4, h5, h5b, h6 => by omega
  | mA + 1, 0, t, d, s, a, b, h1, h2, h3, h4, h5, h5b, h6 => by omega
  | mA + 1, mB + 1, t, d, s, a, b, h1, h2, h3, h4, h5, h5b, h6 => by
    have hb : gT (d + 1) b = true := Zhn h1 (by rw [h2]; simp)
    rw [Z7g, Zt]
    have a1 : at' t.gKids 1 = some b := by rw [h2]; rfl
    simp only [a1, isPr, Zsy, obs]
    cases hp : pr b with
    | false =>
      rw [if_neg Bool.false_ne_true, if_neg Bool.false_ne_true]
      exact ⟨s, t, b, rfl, rfl, a1, h4, ⟨_, hb⟩, Nat.le_refl _⟩
    | true =>
      obtain ⟨u, v, k1, k2⟩ := Zsp hp
      have b0 : at' b.gKids 0 = some u := by rw [k1]; rfl
      have b1 : at' b.gKids 1 = some v := by rw [k1]; rfl
      obtain ⟨r, e1, e2, e3⟩ := H u _ (Zhn hb (by rw [k1]; simp)) (by omega)
      have s1 : Z11 s (bs [44]) := so (by rw [z1]; omega)
      have s2 : Z11 (s ++ bs [44]) r := so (by rw [ByteArray.size_append, z1]; omega)
      have s3 : Z11 (bs [44]) r := so (by rw [z1]; omega)
      have s4 : Z11 s (bs [44] ++ r) := so (by rw [ByteArray.size_append, z1]; omega)
      rw [if_pos rfl, if_pos rfl]
      simp only [b0, b1, e1, e2, obs]
      rw [if_pos s1, if_pos s2, if_pos s3, if_pos s4, ByteArray.append_assoc]
      obtain ⟨s', t', b', f1, f2, f3, f4, f5, f6⟩ := row (kA := kA) (kB := kB) (R := R) (X := X) H mA mB b (d + 1) (s ++ (bs [44] ++ r)) u v hb k1 k2 (by omega) (by omega) (by omega) (by rw [ByteArray.size_append, ByteArray.size_append, z1]; omega)
      exact ⟨s', t', b', f1, f2, f3, f4, f5, by rw [ByteArray.size_append, ByteArray.size_append, z1] at f6; omega⟩
theorem kids {kA kB N : Nat} {W V R X : GTerm → Option ByteArray} (H : Both W V N) {x : GTerm} {d : Int} (hx : gT d x = true) (hn : ∀ y ∈ x.gKids, nT y ≤ N) (hl : x.gKids.length ≤ 5) {p : ByteArray} (hp : p.size ≤ 100) (hN : N ≤ 400) :
    ∀ (mA mB j : Nat) (l : List ByteArray), j ≤ x.gKids.length → x.gKids.length - j < mA → x.gKids.length - j < mB → l.length = j → (Z5w l (bs [44])).size ≤ j * 100000 →
      ∃ l', Zs kA W X x mA l (j : Int) = some (.done l') ∧ Z4a kB R V x mB (p ++ Z5w l (bs [44])) (j : Int) = some (.done (p ++ Z5w l' (bs [44]))) ∧ l'.length = x.gKids.length ∧
        (Z5w l' (bs [44])).size ≤ (Z5w l (bs [44])).size + 120 * nsum nT (x.gKids.drop j) + (x.gKids.length - j)
  | 0, mB, j, l, h1, h2, h2b, h3, h4 => by omega
  | mA + 1, 0, j, l, h1, h2, h2b, h3, h4 => by omega
  | mA + 1, mB + 1, j, l, h1, h2, h2b, h3, h4 => by
    have hM := Z15
    rw [Zs, Z4a]
    by_cases hlt : j < x.gKids.length
    · have hd : decide ((j : Int) < (x.gKids.length : Int)) = true := by simpa using hlt
      have hy := List.getElem_mem hlt
      obtain ⟨r, e1, e2, e3⟩ := H _ _ (Zhn hx hy) (hn _ hy)
      have hy2 := hn _ hy
      have hle : l.length + [r].length ≤ 1073741824 := by simp only [List.length_cons, List.length_nil]; omega
      have ns := Zfj hlt
      rw [if_pos hd, if_pos hd, Z7r hlt, obs, e1, obs, if_pos hle, Z7s hlt (by omega)]
      unfold Z78
      simp only [Z7r hlt, obs, e2, Z7s hlt (show x.gKids.length ≤ maxLen by omega)]
      by_cases h0 : j = 0
      · have hnp : ¬ decide ((j : Int) > 0) = true := by rw [decide_eq_true_eq]; omega
        have hl0 : l = [] := List.length_eq_zero_iff.1 (by omega)
        subst hl0
        have s1 : Z11 (p ++ Z5w [] (bs [44])) r := so (by rw [ByteArray.size_append, Zft]; have : (bs []).size = 0 := rfl; omega)
        rw [if_neg hnp, if_pos s1]
        obtain ⟨l', f1, f2, f3, f4⟩ := kids (kA := kA) (kB := kB) (R := R) (X := X) H hx hn hl hp hN mA mB (j + 1) ([] ++ [r]) (by omega) (by omega) (by omega) (by simp; omega) (by rw [List.nil_append, Zfs]; omega)
        have z : p ++ Z5w [] (bs [44]) ++ r = p ++ Z5w ([] ++ [r]) (bs [44]) := by
          rw [List.nil_append, Zfs, Zft, ByteArray.append_assoc]; congr 1
        rw [z]
        refine ⟨l', f1, f2, f3, ?_⟩
        rw [List.nil_append, Zfs] at f4
        have : (Z5w [] (bs [44])).size = 0 := rfl
        omega
      · have hnp : decide ((j : Int) > 0) = true := by rw [decide_eq_true_eq]; omega
        have hl0 : l ≠ [] := fun q => by rw [q] at h3; simp at h3; omega
        have s1 : Z11 (p ++ Z5w l (bs [44])) (bs [44]) := so (by rw [ByteArray.size_append, z1]; omega)
        have s2 : Z11 (p ++ Z5w l (bs [44]) ++ bs [44]) r := so (by rw [ByteArray.size_append, ByteArray.size_append, z1]; omega)
        rw [if_pos hnp, if_pos s1, if_pos s2]
        have js := Zo9 l r (bs [44]) hl0
        obtain ⟨l', f1, f2, f3, f4⟩ := kids (kA := kA) (kB := kB) (R := R) (X := X) H hx hn hl hp hN mA mB (j + 1) (l ++ [r]) (by omega) (by omega) (by omega) (by simp; omega) (by rw [js, ByteArray.size_append, ByteArray.size_append, z1]; omega)
        have z : p ++ Z5w l (bs [44]) ++ bs [44] ++ r = p ++ Z5w (l ++ [r]) (bs [44]) := by
          rw [js, ByteArray.append_assoc, ByteArray.append_assoc]
        rw [z]
        refine ⟨l', f1, f2, f3, ?_⟩
        rw [js, ByteArray.size_append, ByteArray.size_append, z1] at f4
        omega
    · have hd : ¬ decide ((j : Int) < (x.gKids.length : Int)) = true := by simpa using hlt
      rw [if_neg hd, if_neg hd]
      exact ⟨l, rfl, rfl, by omega, by omega⟩
theorem Zq2 {x : Int} (h : 0 ≤ x) : ∃ n : Nat, x = (n : Int) := Int.eq_ofNat_of_zero_le h
theorem Zk9 {α : Type} {c : Prop} [Decidable c] {a b : Option α} (ha : ∃ x, a = some x) (hb : ∃ x, b = some x) : ∃ x, (if c then a else b) = some x := by
  split
  · exact ha
  · exact hb
theorem Zir (k : Nat) (s : ByteArray) : ∃ r, Z1u k s = some r := by
  have J3 : ∀ e, ∃ r, Z4q k s e = some r := fun e => by
    unfold Z4q
    repeat' (first | apply Zk9 | exact ⟨_, rfl⟩)
  have J2 : ∀ e, ∃ r, Z2q k s e = some r := fun e => by
    unfold Z2q
    repeat' (first | exact J3 _ | apply Zk9 | exact ⟨_, rfl⟩)
  have J1 : ∀ e, ∃ r, Z4r k s e = some r := fun e => by
    unfold Z4r
    repeat' (first | exact J2 _ | apply Zk9 | exact ⟨_, rfl⟩)
  unfold Z1u
  repeat' (first | exact J1 _ | apply Zk9 | exact ⟨_, rfl⟩)
theorem Zjq (k : Nat) (s : ByteArray) : ∃ r, Z2y k s = some r := by
  unfold Z2y
  repeat' (first | apply Zk9 | exact ⟨_, rfl⟩)
theorem Zmq : ∀ (N : Nat), N ≤ 400 → ∀ (kA kB : Nat), 5000 + maxLen + 4 * N < kA → 5000 + maxLen + 4 * N < kB → Both (Z5j kA) (Z1a kB) N
  | N, hN, 0, kB, hkA, hkB => by omega
  | N, hN, 1, kB, hkA, hkB => by omega
  | N, hN, kA + 2, 0, hkA, hkB => by omega
  | N, hN, kA + 2, 1, hkA, hkB => by omega
  | N, hN, kA + 2, kB + 2, hkA, hkB => by
    intro x d hx hn
    have hM := Z15
    have hgt := hx
    rw [Zoc] at hgt
    simp only [Bool.and_eq_true] at hgt
    have h1 := hgt.2.1
    have hA3 : 3100 ≤ kA + 1 := by omega
    have hB3 : 3100 ≤ kB + 1 := by omega
    rw [Z5j, Z1a]
    unfold Z1d
    unfold one at h1
    by_cases k1 : x.gKind = 1
    · rw [if_pos k1] at h1
      simp only [Bool.and_eq_true] at h1
      have hr := of_decide_eq_true h1.1
      obtain ⟨n, hnn⟩ := Zq2 hr.1
      rw [hnn] at hr
      obtain ⟨f1, f2⟩ := Zmc (k := kB + 1) (by omega) (n := n) (by omega)
      have g1 := Zqb (k := kA + 1) (n := n) (by omega)
      have s1 : Z11 (bs [95]) (decB n) := so (by rw [z1]; omega)
      have c1 : (x.gKind == 1) = true := by rw [beq_iff_eq]; exact k1
      rw [if_pos c1, if_pos c1, hnn]
      simp only [f1, g1, obs, if_pos s1]
      exact ⟨_, rfl, rfl, by rw [ByteArray.size_append, z1]; omega⟩
    have c1 : ¬ (x.gKind == 1) = true := by rw [beq_iff_eq]; exact k1
    rw [if_neg k1] at h1
    rw [if_neg c1, if_neg c1]
    by_cases k3 : x.gKind = 3
    · have k2 : ¬ x.gKind = 2 := by omega
      rw [if_neg k2, if_pos k3] at h1
      simp only [Bool.and_eq_true] at h1
      have hr := of_decide_eq_true h1.1
      have c3 : (x.gKind == 3) = true := by rw [beq_iff_eq]; exact k3
      rw [if_pos c3, if_pos c3]
      by_cases hneg : x.gNum < 0
      · obtain ⟨n, hnn⟩ := Zq2 (show 0 ≤ -x.gNum by omega)
        have hx' : x.gNum = -(n : Int) := by omega
        obtain ⟨f1, f2⟩ := Zmc (k := kB + 1) (by omega) (n := n) (by omega)
        have g1 := Zu1 (k := kA + 1) (n := n) (by omega) (by omega)
        have hd : decide (x.gNum < 0) = true := by simpa using hneg
        have s1 : Z11 (bs [45]) (decB n) := so (by rw [z1]; omega)
        rw [if_pos hd, hx', Z2k (by omega) (by omega), show (0 : Int) - -(n : Int) = (n : Int) by omega]
        simp only [f1, g1, obs, if_pos s1]
        exact ⟨_, rfl, rfl, by rw [ByteArray.size_append, z1]; omega⟩
      · obtain ⟨n, hnn⟩ := Zq2 (show 0 ≤ x.gNum by omega)
        obtain ⟨f1, f2⟩ := Zmc (k := kB + 1) (by omega) (n := n) (by omega)
        have g1 := Zqb (k := kA + 1) (n := n) (by omega)
        have hd : ¬ decide (x.gNum < 0) = true := by simpa using hneg
        rw [if_neg hd, hnn]
        simp only [f1, g1, obs]
        exact ⟨_, rfl, rfl, by omega⟩
    have c3 : ¬ (x.gKind == 3) = true := by rw [beq_iff_eq]; exact k3
    rw [if_neg c3, if_neg c3]
    by_cases k2 : x.gKind = 2
    · rw [if_pos k2] at h1
      simp only [Bool.and_eq_true, decide_eq_true_eq] at h1
      obtain ⟨r, f1, f2, f3⟩ := Zue (kA := kA + 1) (kB := kB + 1) hA3 hB3 h1.1
      have c2 : (x.gKind == 2) = true := by rw [beq_iff_eq]; exact k2
      have s1 : Z11 (bs [40]) r := so (by rw [z1]; omega)
      have s2 : Z11 (bs [40] ++ r) (bs [41]) := so (by rw [ByteArray.size_append, z1, z1]; omega)
      unfold Z88 Zig Zen Zu
      rw [Zfw, Zh9, show Z1u (kA + 1) = Z1u (kB + 1) from rfl, show Z2y (kA + 1) = Z2y (kB + 1) from rfl]
      simp only [if_pos c2, obs]
      cases sEq x.gName (bs [91, 93]) with
      | true => exact ⟨_, rfl, rfl, by have : (bs [91, 93]).size = 2 := rfl; omega⟩
      | false =>
        rw [if_neg Bool.false_ne_true, if_neg Bool.false_ne_true]
        obtain ⟨i, q1⟩ := Zir (kB + 1) x.gName
        obtain ⟨j, q2⟩ := Zjq (kB + 1) x.gName
        simp only [q1, q2, obs]
        have hop : ∀ b : Bool, ∃ z, ((if b = true then some true else some j.2).bind fun e : Bool => some e) = some z := fun b => by cases b <;> exact ⟨_, rfl⟩
        cases i.2 with
        | true =>
          simp only [if_true, obs, f1, f2, if_pos s1, if_pos s2]
          exact ⟨_, rfl, rfl, by rw [ByteArray.size_append, ByteArray.size_append, z1, z1]; omega⟩
        | false =>
          cases j.2 with
          | true =>
            simp only [Bool.false_eq_true, if_false, if_true, obs, f1, f2, if_pos s1, if_pos s2]
            exact ⟨_, rfl, rfl, by rw [ByteArray.size_append, ByteArray.size_append, z1, z1]; omega⟩
          | false =>
            simp only [Bool.false_eq_true, if_false, obs, f1, f2]
            exact ⟨_, rfl, rfl, by omega⟩
    rw [if_neg k2] at h1
    have k4 : x.gKind = 4 := by
      by_cases q : x.gKind = 4
      · exact q
      · rw [if_neg k3, if_neg q] at h1; cases h1
    rw [if_neg k3, if_pos k4] at h1
    simp only [Bool.and_eq_true, decide_eq_true_eq] at h1
    have hl := of_decide_eq_true h1.2.2
    have c2 : ¬ (x.gKind == 2) = true := by rw [beq_iff_eq]; exact k2
    have c4 : (x.gKind == 4) = true := by rw [beq_iff_eq]; exact k4
    have hkn := Z6p x
    have hlen := Z81 nT x.gKids
    obtain ⟨M, rfl⟩ : ∃ M, N = M + 1 := ⟨N - 1, by omega⟩
    have H1 : Both (Z5j (kA + 1)) (Z1a kB) M := Zmq M (by omega) (kA + 1) kB (by omega) (by omega)
    have H2 : Both (Z5j (kA + 1)) (Z1a (kB + 1)) M := Zmq M (by omega) (kA + 1) (kB + 1) (by omega) (by omega)
    have H3 : Both (Z5j kA) (Z1a (kB + 1)) M := Zmq M (by omega) kA (kB + 1) (by omega) (by omega)
    have hkids : ∀ y ∈ x.gKids, nT y ≤ M := fun y hy => by have := Z4t (n := nT) hy; omega
    obtain ⟨nm, t1, t2, t3⟩ := Zue (kA := kA + 1) (kB := kB + 1) hA3 hB3 h1.1
    unfold Z88 Zu
    simp only [if_neg c2, obs, Bool.false_eq_true, if_false, Zsy, isPr]
    have ia : ∀ y : GTerm, Z88 (kA + 1) y (bs [91, 93]) = if (y.gKind == 2) = true then some (sEq y.gName (bs [91, 93])) else some false := fun y => rfl
    cases hp : pr x with
    | true =>
      simp only [if_true]
      obtain ⟨u, v, q1, q2⟩ := Zsp hp
      have x0 : at' x.gKids 0 = some u := by rw [q1]; rfl
      have x1 : at' x.gKids 1 = some v := by rw [q1]; rfl
      obtain ⟨r, e1, e2, e3⟩ := H1 u _ (Zhn hx (by rw [q1]; simp)) (by omega)
      have s1 : Z11 (bs [91]) r := so (by rw [z1]; omega)
      obtain ⟨s', t', b', f1, f2, f3, f4, ⟨e, f5⟩, f6⟩ := row (kA := kA + 1) (kB := kB) (R := Z34 kB) (X := Z64 (kA + 1)) H1 (kA + 1) kB x d (bs [91] ++ r) u v hx q1 q2 (by omega) (by omega) (by omega) (by rw [ByteArray.size_append, z1]; omega)
      rw [ByteArray.size_append, z1] at f6
      obtain ⟨w, g1, g2, g3⟩ := H1 b' e f5 f4
      have s2 : Z11 s' (bs [93]) := so (by rw [z1]; omega)
      have s3 : Z11 s' (bs [124]) := so (by rw [z1]; omega)
      have s4 : Z11 (s' ++ bs [124]) w := so (by rw [ByteArray.size_append, z1]; omega)
      have s5 : Z11 (s' ++ bs [124] ++ w) (bs [93]) := so (by rw [ByteArray.size_append, ByteArray.size_append, z1, z1]; omega)
      have s6 : Z11 (bs [124]) w := so (by rw [z1]; omega)
      have s7 : Z11 s' (bs [124] ++ w) := so (by rw [ByteArray.size_append, z1]; omega)
      have s8 : Z11 (s' ++ (bs [124] ++ w)) (bs [93]) := so (by rw [ByteArray.size_append, ByteArray.size_append, z1, z1]; omega)
      rw [Z34]
      simp only [x0, x1, e1, e2, obs, if_pos s1, f1, f2, f3, ia, g1, g2, if_pos s2, if_pos s3, if_pos s4, if_pos s5, if_pos s6, if_pos s7, if_pos s8]
      have fin : ((s' ++ (bs [124] ++ w)) ++ bs [93]).size ≤ 120 * (nT x + 1) := by
        simp only [ByteArray.size_append, z1]; omega
      have fin2 : (s' ++ bs [93]).size ≤ 120 * (nT x + 1) := by
        simp only [ByteArray.size_append, z1]; omega
      have asc : s' ++ bs [124] ++ w ++ bs [93] = s' ++ (bs [124] ++ w) ++ bs [93] := by simp only [ByteArray.append_assoc]
      rw [asc]
      cases b'.gKind == 2 with
      | false => exact ⟨_, rfl, rfl, fin⟩
      | true =>
        simp only [if_true]
        cases sEq b'.gName (bs [91, 93]) with
        | true => exact ⟨_, rfl, rfl, fin2⟩
        | false => exact ⟨_, rfl, rfl, fin⟩
    | false =>
      simp only [Bool.false_eq_true, if_false]
      unfold Zb9
      rw [Zfw, show Z1u (kA + 1) = Z1u (kB + 1) from rfl]
      obtain ⟨i, q0⟩ := Zir (kB + 1) x.gName
      simp only [q0, obs, if_pos c4]
      obtain ⟨l', f1, f2, f3, f4⟩ := kids (kA := kA + 1) (kB := kB + 1) (R := Z34 (kB + 1)) (X := Z64 (kA + 1)) H2 hx hkids (by omega) (p := nm ++ bs [40]) (by rw [ByteArray.size_append, z1]; omega) (by omega) (kA + 1) (kB + 1) 0 [] (by omega) (by omega) (by omega) rfl (by show (bs []).size ≤ _; decide)
      rw [show ((0 : Nat) : Int) = 0 from rfl] at f1 f2
      rw [List.drop_zero, show (Z5w [] (bs [44])).size = 0 from rfl] at f4
      have pe : nm ++ bs [40] ++ Z5w [] (bs [44]) = nm ++ bs [40] := by
        rw [Zft]; apply ByteArray.ext; simp [bs]
      rw [pe] at f2
      have s1 : Z11 nm (bs [40]) := so (by rw [z1]; omega)
      have s2 : Z11 (nm ++ bs [40]) (Z5w l' (bs [44])) := so (by rw [ByteArray.size_append, z1]; omega)
      have s3 : Z11 (nm ++ bs [40] ++ Z5w l' (bs [44])) (bs [41]) := so (by rw [ByteArray.size_append, ByteArray.size_append, z1, z1]; omega)
      have jj : Z7w (kA + 1) l' (bs [44]) = some (Z5w l' (bs [44])) := by
        unfold Z7w
        rw [if_pos ⟨by omega, by omega⟩]
      cases i.2 with
      | false =>
        unfold Z4z
        simp only [f1, f2, t1, t2, obs, if_pos s1, if_pos s2, if_pos s3, jj, Bool.false_eq_true, if_false]
        exact ⟨_, rfl, rfl, by simp only [ByteArray.size_append, z1]; omega⟩
      | true =>
        simp only [if_true, obs]
        by_cases h2 : x.gKids.length = 2
        · have hb2 : ((x.gKids.length : Int) == 2) = true := by rw [beq_iff_eq]; omega
          rw [hb2]
          simp only [if_true]
          match hk2 : x.gKids, h2 with
          | [u, v], _ =>
            have nx : nT x = 2 + nT u + nT v := by rw [hkn, hk2]; simp [nsum]; omega
            obtain ⟨r, e1, e2, e3⟩ := H3 u _ (Zhn hx (by rw [hk2]; simp)) (by omega)
            obtain ⟨w, g1, g2, g3⟩ := H3 v _ (Zhn hx (by rw [hk2]; simp)) (by omega)
            have x0 : at' x.gKids 0 = some u := by rw [hk2]; rfl
            have x1 : at' x.gKids 1 = some v := by rw [hk2]; rfl
            obtain ⟨nm', t1', t2', t3'⟩ := Zue (kA := kA) (kB := kB + 1) (by omega) hB3 h1.1
            obtain rfl : nm = nm' := by rw [t1] at t1'; exact oInj t1'
            have body : ∀ sg : ByteArray, sg.size ≤ 22 → (Z6x kA x.gName = some sg) → ∃ z, Z64 (kA + 1) x = some z ∧ Z5s (kB + 1) (Z34 (kB + 1)) (Z1a (kB + 1)) x sg = some z ∧ z.size ≤ 120 * (nT x + 1) := by
              intro sg hsg hst
              have s1 : Z11 (bs [40]) r := so (by rw [z1]; omega)
              have s2 : Z11 (bs [40] ++ r) (bs [32]) := so (by simp only [ByteArray.size_append, z1]; omega)
              have s3 : Z11 (bs [40] ++ r ++ bs [32]) sg := so (by simp only [ByteArray.size_append, z1]; omega)
              have s4 : Z11 (bs [40] ++ r ++ bs [32] ++ sg) (bs [32]) := so (by simp only [ByteArray.size_append, z1]; omega)
              have s5 : Z11 (bs [40] ++ r ++ bs [32] ++ sg ++ bs [32]) w := so (by simp only [ByteArray.size_append, z1]; omega)
              have s6 : Z11 (bs [40] ++ r ++ bs [32] ++ sg ++ bs [32] ++ w) (bs [41]) := so (by simp only [ByteArray.size_append, z1]; omega)
              rw [Z64]
              unfold Z5s
              simp only [x0, x1, e1, e2, g1, g2, hst, obs, if_pos s1, if_pos s2, if_pos s3, if_pos s4, if_pos s5, if_pos s6]
              exact ⟨_, rfl, rfl, by simp only [ByteArray.size_append, z1]; omega⟩
            unfold Z4z
            simp only [if_true, t1, obs]
            cases hc : sEq x.gName (bs [44]) with
            | true =>
              obtain ⟨z, y1, y2, y3⟩ := body (bs [44]) (by decide) (by unfold Z6x; rw [hc, if_pos rfl, Z91.1 hc])
              simp only [if_true, y1, y2, obs]
              exact ⟨z, rfl, rfl, y3⟩
            | false =>
              obtain ⟨z, y1, y2, y3⟩ := body nm t3 (by unfold Z6x; rw [hc, if_neg Bool.false_ne_true, t2', obs])
              simp only [Bool.false_eq_true, if_false, y1, y2, obs]
              exact ⟨z, rfl, rfl, y3⟩
        · have hb2 : ((x.gKids.length : Int) == 2) = false := by rw [beq_eq_false_iff_ne]; omega
          rw [hb2]
          unfold Z4z
          simp only [f1, f2, t1, t2, obs, if_pos s1, if_pos s2, if_pos s3, jj, Bool.false_eq_true, if_false]
          exact ⟨_, rfl, rfl, by simp only [ByteArray.size_append, z1]; omega⟩
structure Toks (L : List GSign) : Prop where
  tk : ∀ x ∈ L, (x.gKind = 4 → x.gText ∈ Zo5) ∧ x.gText.size ≤ 3000 ∧ 0 ≤ x.gNum ∧ x.gNum ≤ 999999999
  nr : ∀ (i : Nat) (x : GSign), L[i]? = some x → x.gNear = true → ∃ y : GSign, L[i + 1]? = some y ∧ y.gKind = 4 ∧ y.gText = bs [40]
  len : L.length ≤ 3000
def SS (L : List GSign) (i d : Nat) (N : List ByteArray) : GXr := GXr.mk L (i : Int) false (d : Int) N
def II (L : List GSign) (i d : Nat) (N : List ByteArray) : GParser := GParser.mk L (i : Int) N (d : Int) false
def sg0 : GSign := GSign.mk 0 (bs []) 0 0 false
def tkn (L : List GSign) (i : Nat) : GSign := (L[i]?).getD sg0
def isM (L : List GSign) (i : Nat) (t : ByteArray) : Bool := ((tkn L i).gKind == 4) && sEq (tkn L i).gText t
theorem Z8o {L : List GSign} {i : Nat} (h : i < L.length) : at' L (i : Int) = some (tkn L i) := by
  rw [Z7r h]; unfold tkn; rw [List.getElem?_eq_getElem h]; rfl
theorem Zh3 {L : List GSign} {i : Nat} (h : ¬ i < L.length) : tkn L i = sg0 := by
  unfold tkn; rw [List.getElem?_eq_none (by omega)]; rfl
theorem tkn_lt' {L : List GSign} {i : Nat} (h : (tkn L i).gKind ≠ 0) : i < L.length := by
  rcases Nat.lt_or_ge i L.length with c | c
  · exact c
  · rw [Zh3 (by omega)] at h; exact absurd rfl h
theorem Zbt {L : List GSign} {i : Nat} (h : i < L.length) : tkn L i ∈ L := by
  unfold tkn; rw [List.getElem?_eq_getElem h]; exact List.getElem_mem h
theorem Z8h {L : List GSign} {i : Nat} {t : ByteArray} (h : isM L i t = true) : i < L.length ∧ (tkn L i).gKind = 4 ∧ (tkn L i).gText = t := by
  unfold isM at h
  rw [Bool.and_eq_true, beq_iff_eq, Z91] at h
  exact ⟨tkn_lt' (by rw [h.1]; decide), h.1, h.2⟩
theorem Zfv {L : List GSign} {i : Nat} {t u : ByteArray} (h : isM L i t = true) (hn : sEq t u = false) : isM L i u = false := by
  unfold isM; rw [(Z8h h).2.2, hn, Bool.and_false]
theorem Zvp {L : List GSign} {i : Nat} {t : ByteArray} (h : ((tkn L i).gKind == 4) = false) : isM L i t = false := by
  unfold isM; rw [h]; rfl
theorem wsuc {n : Nat} (h : n ≤ 100000) : wr.i64 ((n : Int) + 1) = ((n + 1 : Nat) : Int) := by rw [Z2k (by omega) (by omega)]; omega
theorem wadd {n b : Nat} (h : n + b ≤ 100000) : wr.i64 ((n : Int) + (b : Int)) = ((n + b : Nat) : Int) := by rw [Z2k (by omega) (by omega)]; omega
theorem sIs0 {k : Nat} {L : List GSign} {i d : Nat} {N : List ByteArray} {kd : Int} (h0 : kd ≠ 0) : Z1i k (SS L i d N) kd (bs []) = some (SS L i d N, (tkn L i).gKind == kd) := by
  unfold Z1i SS
  simp only [Bool.not_false, if_true]
  by_cases c : i < L.length
  · rw [if_pos (show decide ((i : Int) < (L.length : Int)) = true by simpa using c), Z8o c, obs]
    cases (tkn L i).gKind == kd with
    | true => rw [if_pos rfl, if_pos (Zi7 _)]
    | false => rw [if_neg Bool.false_ne_true]
  · rw [if_neg (show ¬ decide ((i : Int) < (L.length : Int)) = true by simpa using c), Zh3 c, show (sg0.gKind == kd) = false from beq_eq_false_iff_ne.2 (fun e => h0 e.symm)]
theorem sIsM {k : Nat} {L : List GSign} {i d : Nat} {N : List ByteArray} {t : ByteArray} (ht : sEq t (bs []) = false) : Z1i k (SS L i d N) 4 t = some (SS L i d N, isM L i t) := by
  unfold Z1i SS isM
  simp only [Bool.not_false, if_true]
  by_cases c : i < L.length
  · rw [if_pos (show decide ((i : Int) < (L.length : Int)) = true by simpa using c), Z8o c, obs]
    cases (tkn L i).gKind == 4 with
    | true => rw [if_pos rfl, ht, if_neg Bool.false_ne_true, obs]; rfl
    | false => rw [if_neg Bool.false_ne_true]; rfl
  · rw [if_neg (show ¬ decide ((i : Int) < (L.length : Int)) = true by simpa using c), Zh3 c]; rfl
theorem Zf3 {k : Nat} {L : List GSign} {i d : Nat} {N : List ByteArray} {t : ByteArray} (hi : i ≤ 100000) (ht : sEq t (bs []) = false) : Z14 k (SS L i d N) t = some (if isM L i t = true then (SS L (i + 1) d N, true) else (SS L i d N, false)) := by
  unfold Z14
  rw [sIsM ht, obs]
  split
  · rw [show (SS L i d N).gAt = (i : Int) from rfl, wsuc hi]; rfl
  · rfl
theorem Zi4 {k : Nat} {L : List GSign} {i d : Nat} {N : List ByteArray} {t : ByteArray} (hi : i ≤ 100000) (ht : sEq t (bs []) = false) (h : isM L i t = true) : Z12 k (SS L i d N) t = some (SS L (i + 1) d N) := by
  unfold Z12
  rw [Zf3 hi ht, h, if_pos rfl, obs]
  rfl
theorem Zi5 {k : Nat} {L : List GSign} {i d : Nat} {N : List ByteArray} {t : ByteArray} (hi : i ≤ 100000) (ht : sEq t (bs []) = false) (h : isM L i t = false) : Z12 k (SS L i d N) t = some (GXr.mk L (i : Int) true (d : Int) N) := by
  unfold Z12
  rw [Zf3 hi ht, h, if_neg Bool.false_ne_true, obs]
  rfl
theorem sIsB {k : Nat} {r : GXr} {kd : Int} {t : ByteArray} (h : r.gBad = true) : Z1i k r kd t = some (r, false) := by
  unfold Z1i
  rw [h, if_neg (by decide)]
theorem Zf2 {k : Nat} {r : GXr} {t : ByteArray} (h : r.gBad = true) : Z14 k r t = some (r, false) := by
  unfold Z14
  rw [sIsB h, obs, if_neg Bool.false_ne_true]
theorem Zdd {k : Nat} {r : GXr} {t : ByteArray} (h : r.gBad = true) : ∃ r', Z12 k r t = some r' ∧ r'.gBad = true := by
  unfold Z12
  rw [Zf2 h, obs]
  exact ⟨_, rfl, rfl⟩
def atI (L : List GSign) (i : Nat) (w : GParser) : Prop := w.gList = L ∧ w.gAt = (i : Int)
theorem atII {L : List GSign} {i d : Nat} {N : List ByteArray} : atI L i (II L i d N) := ⟨rfl, rfl⟩
theorem Zu2 {k : Nat} {L : List GSign} {i b : Nat} {w : GParser} (h : atI L i w) (hi : i + b ≤ 100000) : Z2c k w (b : Int) = some (w, tkn L (i + b)) := by
  unfold Z2c
  rw [h.1, h.2, wadd hi]
  by_cases c : i + b < L.length
  · rw [if_neg (show ¬ decide (((i + b : Nat) : Int) ≥ (L.length : Int)) = true by rw [decide_eq_true_eq]; omega), Z8o c, obs]
  · rw [if_pos (show decide (((i + b : Nat) : Int) ≥ (L.length : Int)) = true by rw [decide_eq_true_eq]; omega), Zh3 c]; rfl
theorem Zqg {k : Nat} {L : List GSign} {i : Nat} {w : GParser} (h : atI L i w) (hi : i ≤ 100000) : Z2c k w 0 = some (w, tkn L i) := Zu2 (b := 0) h hi
theorem iIsM {k : Nat} {L : List GSign} {i b : Nat} {w : GParser} {t : ByteArray} (h : atI L i w) (hi : i + b ≤ 100000) : Zy k w (b : Int) t = some (w, isM L (i + b) t) := by
  unfold Zy isM
  rw [Zu2 h hi, obs]
  cases (tkn L (i + b)).gKind == 4 with
  | true => rw [if_pos rfl]; rfl
  | false => rw [if_neg Bool.false_ne_true]; rfl
theorem Zcz {k : Nat} {L : List GSign} {i : Nat} {w : GParser} {t : ByteArray} (h : atI L i w) (hi : i ≤ 100000) : Zy k w 0 t = some (w, isM L i t) := iIsM (b := 0) h hi
theorem Zm8 {k : Nat} {L : List GSign} {i : Nat} {w : GParser} {t : ByteArray} (h : atI L i w) (hi : i ≤ 100000) : Z2d k w t = some (GParser.mk L ((i + 1 : Nat) : Int) w.gNames w.gDeep (if isM L i t = true then w.gBad else true)) := by
  unfold Z2d
  rw [Zcz h hi, obs]
  cases isM L i t with
  | true => simp only [Bool.not_true, Bool.false_eq_true, if_false, if_true, h.2, h.1, wsuc hi]
  | false => simp only [Bool.not_false, Bool.false_eq_true, if_false, if_true, h.2, h.1, wsuc hi]
def IBad (L : List GSign) (B : Nat) (w : GParser) : Prop := w.gBad = true ∧ ∃ j : Nat, atI L j w ∧ j ≤ B
theorem IBad.le {L : List GSign} {B B' : Nat} {w : GParser} (h : IBad L B w) (hb : B ≤ B') : IBad L B' w := ⟨h.1, h.2.imp fun j q => ⟨q.1, by have := q.2; omega⟩⟩
theorem IBad.mark {k : Nat} {L : List GSign} {B : Nat} {w : GParser} {t : ByteArray} (h : IBad L B w) (hB : B ≤ 100000) : ∃ w', Z2d k w t = some w' ∧ IBad L (B + 1) w' := by
  obtain ⟨h1, j, h2, h3⟩ := h
  refine ⟨_, Zm8 h2 (by omega), ?_, j + 1, ⟨rfl, rfl⟩, by omega⟩
  show (if isM L j t = true then w.gBad else true) = true
  rw [h1]; simp
def Same {α : Type} (f : α → GTerm) (L : List GSign) (d i B : Nat) (rs : GXr × α) (ri : GParser × α) : Prop :=
  (∃ (j : Nat) (N : List ByteArray) (x : α), i < j ∧ j ≤ L.length ∧ N.length ≤ j ∧ (f x).ok ∧ 1 + nT (f x) ≤ j - i ∧ rs = (SS L j d N, x) ∧ ri = (II L j d N, x)) ∨ (rs.1.gBad = true ∧ IBad L B ri.1)
def Zh2 (L : List GSign) (e : Nat) : Prop := ∀ (kS kI i d : Nat) (N : List ByteArray) (most : Int), d + e = 130 → 3100 + 10 * e ≤ kS → 3100 + 10 * e ≤ kI → i ≤ L.length → N.length ≤ i →
  ∃ rs ri, Z8 kS (SS L i d N) most = some rs ∧ Z3 kI (II L i d N) most = some ri ∧ Same id L d i (3010 + 10 * e) rs ri
def ifx (s : ByteArray) : GOp × Bool := (Z1u 0 s).getD (GOp.mk (bs []) 0 0 0, false)
def pfx (s : ByteArray) : GOp × Bool := (Z2y 0 s).getD (GOp.mk (bs []) 0 0 0, false)
theorem Zkb (k : Nat) (s : ByteArray) : Z1u k s = some (ifx s) := by
  obtain ⟨r, h⟩ := Zir 0 s
  have e : Z1u k s = Z1u 0 s := rfl
  unfold ifx
  rw [e, h]; rfl
theorem Zpk (k : Nat) (s : ByteArray) : Z2y k s = some (pfx s) := by
  obtain ⟨r, h⟩ := Zjq 0 s
  have e : Z2y k s = Z2y 0 s := rfl
  unfold pfx
  rw [e, h]; rfl
theorem Zsz (k : Nat) (s : ByteArray) : Z66 k s = some (ifx s) := by rw [Zfw]; exact Zkb k s
theorem Ztn (k : Nat) (s : ByteArray) : Z6y k s = some (pfx s) := by rw [Zh9]; exact Zpk k s
def Zcr (s : ByteArray) (o : Option (GOp × Bool)) : Prop := ∀ r, o = some r → r.2 = true → r.1.gName = s
theorem Zin {s : ByteArray} {c : Prop} [Decidable c] {a b : Option (GOp × Bool)} (ha : Zcr s a) (hb : Zcr s b) : Zcr s (if c then a else b) := by
  split
  · exact ha
  · exact hb
theorem Zs1 {s : ByteArray} {a b c : Int} : Zcr s (some (GOp.mk s a b c, true)) := fun r h _ => by cases h; rfl
theorem Zs2 {s t : ByteArray} {a b c : Int} : Zcr s (some (GOp.mk t a b c, false)) := fun r h h2 => by cases h; cases h2
theorem Zqd {s : ByteArray} (h : (ifx s).2 = true) : (ifx s).1.gName = s := by
  have J3 : ∀ e, Zcr s (Z4q 0 s e) := fun e => by
    unfold Z4q
    repeat' (first | exact Zs1 | exact Zs2 | apply Zin)
  have J2 : ∀ e, Zcr s (Z2q 0 s e) := fun e => by
    unfold Z2q
    repeat' (first | exact J3 _ | exact Zs1 | exact Zs2 | apply Zin)
  have J1 : ∀ e, Zcr s (Z4r 0 s e) := fun e => by
    unfold Z4r
    repeat' (first | exact J2 _ | exact Zs1 | exact Zs2 | apply Zin)
  have J : Zcr s (Z1u 0 s) := by
    unfold Z1u
    repeat' (first | exact J1 _ | exact Zs1 | exact Zs2 | apply Zin)
  exact J _ (Zkb 0 s) h
def opAt (L : List GSign) (i : Nat) : GOp × Bool :=
  if isM L i (bs [44]) = true then ifx (bs [44]) else if ((tkn L i).gKind == 1) = true then (if (tkn L i).gNear = true then (GOp.mk (bs []) 0 0 0, false) else ifx (tkn L i).gText) else (GOp.mk (bs []) 0 0 0, false)
theorem c44 : sEq (bs [44]) (bs []) = false := by kernel_rfl
theorem c41 : sEq (bs [41]) (bs []) = false := by kernel_rfl
theorem c93 : sEq (bs [93]) (bs []) = false := by kernel_rfl
theorem c124 : sEq (bs [124]) (bs []) = false := by kernel_rfl
theorem c40 : sEq (bs [40]) (bs []) = false := by kernel_rfl
theorem c91 : sEq (bs [91]) (bs []) = false := by kernel_rfl
theorem Zlq {L : List GSign} {i : Nat} (h : (opAt L i).2 = true) : i < L.length := by
  unfold opAt at h
  split at h
  · rename_i c; exact (Z8h c).1
  · split at h
    · rename_i c; exact tkn_lt' (by rw [beq_iff_eq.1 c]; decide)
    · cases h
theorem Zpn {L : List GSign} (hL : Toks L) {i : Nat} (h : (opAt L i).2 = true) : okFs (opAt L i).1.gName := by
  have hM := Z15
  have hi := Zlq h
  have ht := (hL.tk _ (Zbt hi)).2.1
  unfold opAt at h ⊢
  unfold okFs
  split at h
  · rename_i c; rw [if_pos c, Zqd h, Z15]; decide
  · rename_i c
    rw [if_neg c]
    split at h
    · rename_i c2
      rw [if_pos c2]
      split at h
      · cases h
      · rename_i c3; rw [if_neg c3, Zqd h]; omega
    · cases h
theorem Zv1 {k : Nat} {L : List GSign} {i d : Nat} {N : List ByteArray} : Z4x k (SS L i d N) = some (SS L i d N, (opAt L i).1, (opAt L i).2) := by
  unfold Z4x
  rw [sIsM c44, obs]
  unfold opAt
  cases c1 : isM L i (bs [44]) with
  | true => rw [if_pos rfl, Zkb, obs, if_pos rfl]
  | false =>
    rw [if_neg (show ¬ (SS L i d N, false).2 = true from Bool.false_ne_true), sIs0 (by decide), obs, if_neg Bool.false_ne_true]
    cases c2 : (tkn L i).gKind == 1 with
    | true =>
      have hi : i < L.length := tkn_lt' (by rw [beq_iff_eq.1 c2]; decide)
      rw [if_pos rfl, if_pos rfl]
      show ((at' L (i : Int)).bind fun x => Z3q k (!x.gNear) (SS L i d N)) = _
      rw [Z8o hi, obs]
      unfold Z3q
      cases (tkn L i).gNear with
      | true => rw [if_neg (by decide), if_pos rfl]
      | false =>
        rw [if_pos (by decide), if_neg Bool.false_ne_true]
        show ((at' L (i : Int)).bind fun x => _) = _
        rw [Z8o hi, obs, Zkb, obs]
    | false =>
      rw [if_neg (show ¬ (SS L i d N, false).2 = true from Bool.false_ne_true), if_neg Bool.false_ne_true]
      rfl
theorem Zv2 {k : Nat} {A B C D' F} {R : GXr → Int → Option (GXr × GTerm)} {L : List GSign} {i d m : Nat} {N : List ByteArray} {most p : Int} {t : GTerm} (hi : i ≤ 100000) :
    Z1m k A B C D' F R most (m + 1) p t (SS L i d N) =
    if (opAt L i).2 = true ∧ ¬ (opAt L i).1.gPrio > most ∧ ¬ (opAt L i).1.gLeft < p then (R (SS L (i + 1) d N) (opAt L i).1.gRight).bind fun n => Z1m k A B C D' F R most m (opAt L i).1.gPrio (GTerm.mk 4 (opAt L i).1.gName 0 [t, n.2]) n.1 else some (.done (t, SS L i d N)) := by
  rw [Z1m, if_pos (show (!(SS L i d N).gBad) = true from rfl), Zv1, obs]
  simp only
  cases c1 : (opAt L i).2 with
  | false => rw [if_pos (by decide), if_neg (fun h => by cases h.1)]
  | true =>
    rw [if_neg (by decide)]
    by_cases c2 : (opAt L i).1.gPrio > most
    · rw [if_pos (by simpa using c2), if_neg (fun h => h.2.1 c2)]
    · rw [if_neg (by simpa using c2)]
      by_cases c3 : (opAt L i).1.gLeft < p
      · rw [if_pos (by simpa using c3), if_neg (fun h => h.2.2 c3)]
      · rw [if_neg (by simpa using c3), if_pos ⟨rfl, c2, c3⟩, show (SS L i d N).gAt = (i : Int) from rfl, wsuc hi]
        rfl
theorem Zty : (Zo5.all fun t => sEq t (bs [44]) || !(ifx t).2) = true := by kernel_rfl
theorem Zvu {k : Nat} {A B C} {R : GParser → Int → Option (GParser × GTerm)} {L : List GSign} (hL : Toks L) {i d m : Nat} {N : List ByteArray} {most p : Int} {t : GTerm} (hi : i ≤ 100000) :
    Zx k A B R C most (m + 1) p t (II L i d N) =
    if (opAt L i).2 = true ∧ ¬ (opAt L i).1.gPrio > most ∧ ¬ (opAt L i).1.gLeft < p then (R (II L (i + 1) d N) (opAt L i).1.gRight).bind fun n => Zx k A B R C most m (opAt L i).1.gPrio (GTerm.mk 4 (opAt L i).1.gName 0 [t, n.2]) n.1 else some (.done (t, II L i d N)) := by
  rw [Zx, if_pos (show (!(II L i d N).gBad) = true from rfl), Zqg atII hi, obs]
  simp only
  rw [Zsz, obs]
  -- behind the operator
  have tail : ∀ o : GOp × Bool, o = opAt L i → o.2 = true → (if decide (o.1.gPrio > most) = true then some (.done (t, II L i d N)) else if decide (o.1.gLeft < p) = true then some (.done (t, II L i d N)) else Z4d k A B R C (Zx k A B R C most m) (II L i d N, tkn L i) o t) =
      if (opAt L i).2 = true ∧ ¬ (opAt L i).1.gPrio > most ∧ ¬ (opAt L i).1.gLeft < p then (R (II L (i + 1) d N) (opAt L i).1.gRight).bind fun n => Zx k A B R C most m (opAt L i).1.gPrio (GTerm.mk 4 (opAt L i).1.gName 0 [t, n.2]) n.1 else some (.done (t, II L i d N)) := by
    intro o ho h2
    rw [← ho]
    by_cases c2 : o.1.gPrio > most
    · rw [if_pos (by simpa using c2), if_neg (fun h => h.2.1 c2)]
    · rw [if_neg (by simpa using c2)]
      by_cases c3 : o.1.gLeft < p
      · rw [if_pos (by simpa using c3), if_neg (fun h => h.2.2 c3)]
      · rw [if_neg (by simpa using c3), if_pos ⟨h2, c2, c3⟩]
        unfold Z4d
        simp only
        rw [show (II L i d N).gAt = (i : Int) from rfl, wsuc hi]
        rfl
  have stop : (opAt L i).2 = false → (if (opAt L i).2 = true ∧ ¬ (opAt L i).1.gPrio > most ∧ ¬ (opAt L i).1.gLeft < p then (R (II L (i + 1) d N) (opAt L i).1.gRight).bind fun n => Zx k A B R C most m (opAt L i).1.gPrio (GTerm.mk 4 (opAt L i).1.gName 0 [t, n.2]) n.1 else some (.done (t, II L i d N))) = some (.done (t, II L i d N)) := fun h => if_neg (fun q => by rw [h] at q; cases q.1)
  by_cases k4 : (tkn L i).gKind = 4
  · have hlt : i < L.length := tkn_lt' (by rw [k4]; decide)
    have hm := (hL.tk _ (Zbt hlt)).1 k4
    have ho := List.all_eq_true.1 Zty _ hm
    cases c : sEq (tkn L i).gText (bs [44]) with
    | true =>
      have e : opAt L i = ifx (tkn L i).gText := by
        unfold opAt isM
        rw [k4, c, if_pos (by decide), Z91.1 c]
      have k4' : ¬ ((tkn L i).gKind != 4) = true := by rw [k4]; decide
      cases c2 : (ifx (tkn L i).gText).2 with
      | false => rw [if_pos (by decide), stop (by rw [e]; exact c2)]
      | true => rw [if_neg (by decide), if_neg k4', tail _ e.symm c2]
    | false =>
      rw [c, Bool.false_or] at ho
      have e : opAt L i = (GOp.mk (bs []) 0 0 0, false) := by
        unfold opAt isM
        rw [c, Bool.and_false, if_neg Bool.false_ne_true, k4, if_neg (by decide)]
      rw [if_pos ho, stop (by rw [e])]
  · have nM : isM L i (bs [44]) = false := Zvp (by rw [beq_eq_false_iff_ne]; exact k4)
    have k4' : ((tkn L i).gKind != 4) = true := by rw [bne_iff_ne]; exact k4
    by_cases k1 : (tkn L i).gKind = 1
    · have k1' : ¬ ((tkn L i).gKind != 1) = true := by rw [k1]; decide
      cases cn : (tkn L i).gNear with
      | true =>
        have e : opAt L i = (GOp.mk (bs []) 0 0 0, false) := by
          unfold opAt
          rw [nM, if_neg Bool.false_ne_true, k1, if_pos (by decide), cn, if_pos rfl]
        rw [stop (by rw [e]), if_pos k4', if_neg k1', if_pos rfl, ite_self]
      | false =>
        have e : opAt L i = ifx (tkn L i).gText := by
          unfold opAt
          rw [nM, if_neg Bool.false_ne_true, k1, if_pos (by decide), cn, if_neg Bool.false_ne_true]
        cases c2 : (ifx (tkn L i).gText).2 with
        | false => rw [if_pos (by decide), stop (by rw [e]; exact c2)]
        | true => rw [if_neg (by decide), if_pos k4', if_neg k1', if_neg Bool.false_ne_true, tail _ e.symm c2]
    · have k1' : ((tkn L i).gKind != 1) = true := by rw [bne_iff_ne]; exact k1
      have e : opAt L i = (GOp.mk (bs []) 0 0 0, false) := by
        unfold opAt
        rw [nM, if_neg Bool.false_ne_true, if_neg (by rw [beq_iff_eq]; exact k1)]
      rw [stop (by rw [e]), if_pos k4', if_pos k1', ite_self]
theorem Zeb (a : Int) (b : ByteArray) (c : Int) (l : List GTerm) : nT (GTerm.mk a b c l) = nsum nT l := by rw [Z6p]; rfl
theorem ok2 {n : ByteArray} (hn : okFs n) {x y : GTerm} (hx : x.ok) (hy : y.ok) : (GTerm.mk 4 n 0 [x, y]).ok := by
  refine .mk _ _ _ _ (by unfold okI; decide) hn (by unfold okI; decide) (by rw [Z15]; simp) (fun z hz => ?_)
  simp only [List.mem_cons, List.not_mem_nil, or_false] at hz
  rcases hz with rfl | rfl
  · exact hx
  · exact hy
theorem Zwr {L : List GSign} (hL : Toks L) {e : Nat} (H : Zh2 L e) {d : Nat} (hd : d + 1 + e = 130) {kS kI : Nat} (hkS : 3100 + 10 * e ≤ kS) (hkI : 3100 + 10 * e ≤ kI) {A B C D' F A' B' C'} {most : Int} {i0 : Nat} :
    ∀ (n i : Nat) (N : List ByteArray) (p : Int) (t : GTerm) (m m' : Nat), L.length - i ≤ n → i0 < i → i ≤ L.length → N.length ≤ i → t.ok → 1 + nT t ≤ i - i0 → n + 1 < m → n + 1 < m' →
      ∃ ts ss ti si, Z1m kS A B C D' F (Z8 kS) most m p t (SS L i (d + 1) N) = some (.done (ts, ss)) ∧ Zx kI A' B' (Z3 kI) C' most m' p t (II L i (d + 1) N) = some (.done (ti, si)) ∧ Same id L (d + 1) i0 (3010 + 10 * e) (ss, ts) (si, ti) := by
  intro n
  induction n with
  | zero =>
    intro i N p t m m' h1 h2 h3 h4 h5 h6 h7 h8
    have hl := hL.len
    obtain ⟨m, rfl⟩ : ∃ q, m = q + 1 := ⟨m - 1, by omega⟩
    obtain ⟨m', rfl⟩ : ∃ q, m' = q + 1 := ⟨m' - 1, by omega⟩
    have e2 : (opAt L i).2 = false := by
      cases c : (opAt L i).2 with
      | false => rfl
      | true => have := Zlq c; omega
    rw [Zv2 (by omega), Zvu hL (by omega), if_neg (fun h => by rw [e2] at h; cases h.1), if_neg (fun h => by rw [e2] at h; cases h.1)]
    exact ⟨_, _, _, _, rfl, rfl, .inl ⟨i, N, t, h2, h3, h4, h5, h6, rfl, rfl⟩⟩
  | succ n ih =>
    intro i N p t m m' h1 h2 h3 h4 h5 h6 h7 h8
    have hl := hL.len
    obtain ⟨m, rfl⟩ : ∃ q, m = q + 1 := ⟨m - 1, by omega⟩
    obtain ⟨m', rfl⟩ : ∃ q, m' = q + 1 := ⟨m' - 1, by omega⟩
    rw [Zv2 (by omega), Zvu hL (by omega)]
    by_cases c : (opAt L i).2 = true ∧ ¬ (opAt L i).1.gPrio > most ∧ ¬ (opAt L i).1.gLeft < p
    · have hi := Zlq c.1
      obtain ⟨rs, ri, r1, r2, r3⟩ := H kS kI (i + 1) (d + 1) N (opAt L i).1.gRight (by omega) hkS hkI (by omega) (by omega)
      rw [if_pos c, if_pos c, r1, r2, obs, obs]
      rcases r3 with ⟨j, N', x, a1, a2, a3, a4, a5, rfl, rfl⟩ | ⟨b1, b2⟩
      · refine ih j N' _ _ m m' (by omega) (by omega) a2 a3 (ok2 (Zpn hL c.1) h5 a4) ?_ (by omega) (by omega)
        rw [Zeb]
        have a5 : 1 + nT x ≤ j - (i + 1) := a5
        show 1 + (1 + nT t + (1 + nT x + 0)) ≤ j - i0
        omega
      · obtain ⟨m, rfl⟩ : ∃ q, m = q + 1 := ⟨m - 1, by omega⟩
        obtain ⟨m', rfl⟩ : ∃ q, m' = q + 1 := ⟨m' - 1, by omega⟩
        rw [Z1m, Zx, if_neg (by rw [b1]; decide), if_neg (by rw [b2.1]; decide)]
        exact ⟨_, _, _, _, rfl, rfl, .inr ⟨b1, b2⟩⟩
    · rw [if_neg c, if_neg c]
      exact ⟨_, _, _, _, rfl, rfl, .inl ⟨i, N, t, h2, h3, h4, h5, h6, rfl, rfl⟩⟩
theorem sEqC (a b : ByteArray) : sEq a b = sEq b a := by
  rw [Bool.eq_iff_iff, Z91, Z91]
  exact ⟨fun h => h.symm, fun h => h.symm⟩
theorem Zqf {kS kI : Nat} {r : GXr} {s : ByteArray} {N : List ByteArray} (hr : r.gNames = N) (hN : N.length ≤ 3000) : ∀ (m m' j : Nat), j ≤ N.length → N.length - j < m → N.length - j < m' →
    (∃ q : Nat, q < N.length ∧ Z2a kS r s m (j : Int) = some (.ret (r, GTerm.mk 1 (bs []) (q : Int) [])) ∧ Zz kI N s m' (j : Int) = some (.ret (q : Int))) ∨
    (Z2a kS r s m (j : Int) = some (.done ()) ∧ Zz kI N s m' (j : Int) = some (.done ()))
  | 0, m', j, h1, h2, h3 => by omega
  | m + 1, 0, j, h1, h2, h3 => by omega
  | m + 1, m' + 1, j, h1, h2, h3 => by
    rw [Z2a, Zz, hr]
    by_cases hlt : j < N.length
    · have hd : decide ((j : Int) < (N.length : Int)) = true := by simpa using hlt
      rw [if_pos hd, if_pos hd, Z7r hlt, obs, obs, sEqC s]
      cases c : sEq N[j] s with
      | true =>
        rw [if_pos rfl, if_pos rfl]
        exact .inl ⟨j, hlt, rfl, rfl⟩
      | false =>
        rw [if_neg Bool.false_ne_true, if_neg Bool.false_ne_true, wsuc (by omega)]
        exact Zqf hr hN m m' (j + 1) (by omega) (by omega) (by omega)
    · have hd : ¬ decide ((j : Int) < (N.length : Int)) = true := by simpa using hlt
      rw [if_neg hd, if_neg hd]
      exact .inr ⟨rfl, rfl⟩
theorem Ztp {n : Nat} (h : n ≤ 3000) : (GTerm.mk 1 (bs []) (n : Int) []).ok := by
  refine .mk _ _ _ _ (by unfold okI; decide) (by unfold okFs; rw [Z15]; decide) ?_ (by rw [Z15]; simp) (fun z hz => by cases hz)
  have e1 : IntKind.min .i64 = -9223372036854775808 := by decide
  have e2 : IntKind.max .i64 = 9223372036854775807 := by decide
  unfold okI; rw [e1, e2]; omega
theorem varS {kS kI : Nat} (hkS : 3100 ≤ kS) (hkI : 3100 ≤ kI) {L : List GSign} {i d : Nat} {N : List ByteArray} {s : ByteArray} (hN : N.length ≤ 3000) :
    ∃ N' t, Z2w kS (SS L i d N) s = some (SS L i d N', t) ∧ Z37 kI (II L i d N) s = some (II L i d N', t) ∧ N'.length ≤ N.length + 1 ∧ t.ok ∧ nT t = 0 := by
  have J : Z2v kS (SS L i d N) s = some (SS L i d (N ++ [s]), GTerm.mk 1 (bs []) (N.length : Int) []) := by
    unfold Z2v Zan
    have w : wr.i64 ((((SS L i d N).gNames ++ [s]).length : Int) - 1) = (N.length : Int) := by
      show wr.i64 (((N ++ [s]).length : Int) - 1) = _
      rw [List.length_append, List.length_singleton, Z2k (by omega) (by omega)]; omega
    rw [if_pos (by show N.length + [s].length ≤ _; rw [List.length_singleton]; omega), w, obs]; rfl
  have K : ∀ b, Z2i kI (II L i d N) s b true = some (II L i d (N ++ [s]), GTerm.mk 1 (bs []) (N.length : Int) []) := fun b => by
    unfold Z2i Z6w
    rw [if_pos rfl, if_pos (by show N.length + [s].length ≤ _; rw [List.length_singleton]; omega), obs]; rfl
  have fin : N.length ≤ 3000 := hN
  have hl : (N ++ [s]).length ≤ N.length + 1 := by simp
  have hb := Zqf (kS := kS) (kI := kI) (r := SS L i d N) (s := s) (N := N) rfl hN kS kI 0 (by omega) (by omega) (by omega)
  rw [show ((0 : Nat) : Int) = 0 from rfl] at hb
  unfold Z2w Z37 Z28
  rw [J, show (II L i d N).gNames = N from rfl]
  rcases hb with ⟨q, q1, q2, q3⟩ | ⟨q2, q3⟩
  · rw [q2, q3]
    simp only [obs]
    rw [if_neg (show ¬ decide ((q : Int) < 0) = true by rw [decide_eq_true_eq]; omega)]
    cases c : sEq s (bs [95]) with
    | true => rw [if_neg (show ¬ (!true) = true by decide), K]; exact ⟨_, _, rfl, rfl, hl, Ztp hN, by rw [Zeb]; rfl⟩
    | false =>
      rw [if_pos (show (!false) = true by decide)]
      unfold Z2i Z6w
      rw [if_neg Bool.false_ne_true, obs]
      exact ⟨N, _, rfl, rfl, by omega, Ztp (by omega), by rw [Zeb]; rfl⟩
  · rw [q2, q3]
    simp only [obs]
    rw [if_pos (show decide ((-1 : Int) < 0) = true by decide), K, ite_self]
    exact ⟨_, _, rfl, rfl, hl, Ztp hN, by rw [Zeb]; rfl⟩
theorem Zlw (v : List GTerm) (x : GTerm) : nsum nT (v ++ [x]) = nsum nT v + (1 + nT x) := by
  induction v with
  | nil => show 1 + nT x + 0 = 0 + (1 + nT x); omega
  | cons y v ih => rw [List.cons_append]; show 1 + nT y + nsum nT (v ++ [x]) = 1 + nT y + nsum nT v + (1 + nT x); rw [ih]; omega
theorem Zhl {k : Nat} {A B R C} {m : Nat} {v : List GTerm} {w : GParser} (h : w.gBad = true) : Zv k A B R C (m + 1) v w = some (.done (v, w)) := by
  rw [Zv, if_neg (by rw [h]; decide)]
theorem Zg1 {k : Nat} {A B R C} {m : Nat} {v : List GTerm} {L : List GSign} {j d : Nat} {N : List ByteArray} (hj : j ≤ 100000) (h : isM L j (bs [44]) = false) : Zv k A B R C (m + 1) v (II L j d N) = some (.done (v, II L j d N)) := by
  rw [Zv, if_pos (show (!(II L j d N).gBad) = true from rfl), Zcz atII hj, obs, h, if_neg Bool.false_ne_true]
theorem Zqj {k : Nat} {A B C} {R : GParser → Int → Option (GParser × GTerm)} {m : Nat} {v : List GTerm} {L : List GSign} {j d : Nat} {N : List ByteArray} {ri : GParser × GTerm} (hj : j ≤ 100000) (hv : v.length ≤ 100000) (h : isM L j (bs [44]) = true) (hr : R (II L (j + 1) d N) 999 = some ri) :
    Zv k A B R C (m + 1) v (II L j d N) = Zv k A B R C m (v ++ [ri.2]) ri.1 := by
  rw [Zv, if_pos (show (!(II L j d N).gBad) = true from rfl), Zcz atII hj, obs, h, if_pos rfl]
  simp only
  rw [show (II L j d N).gAt = (j : Int) from rfl, wsuc hj]
  have hr : R (GParser.mk (II L j d N).gList ((j + 1 : Nat) : Int) (II L j d N).gNames (II L j d N).gDeep (II L j d N).gBad) 999 = some ri := hr
  rw [hr, obs, if_pos (by rw [List.length_singleton]; omega)]
theorem Zrf {L : List GSign} (hL : Toks L) {e : Nat} (H : Zh2 L e) {d : Nat} (hd : d + e = 130) {kS kI : Nat} (hkS : 3100 + 10 * e ≤ kS) (hkI : 3100 + 10 * e ≤ kI) {A B C} :
    ∀ (n j : Nat) (N : List ByteArray) (v : List GTerm) (m : Nat), L.length - j ≤ n → j ≤ L.length → N.length ≤ j → v.length ≤ j → n + 1 < m →
      ∃ vi wi, Zv kI A B (Z3 kI) C m v (II L j d N) = some (.done (vi, wi)) ∧ v.length ≤ vi.length ∧ ∃ jj, atI L jj wi ∧ jj ≤ 3010 + 10 * e := by
  intro n
  induction n with
  | zero =>
    intro j N v m h1 h2 h3 h4 h5
    have hl := hL.len
    obtain ⟨m, rfl⟩ : ∃ q, m = q + 1 := ⟨m - 1, by omega⟩
    have c : isM L j (bs [44]) = false := by
      cases c : isM L j (bs [44]) with
      | false => rfl
      | true => have := (Z8h c).1; omega
    exact ⟨_, _, Zg1 (by omega) c, Nat.le_refl _, j, atII, by omega⟩
  | succ n ih =>
    intro j N v m h1 h2 h3 h4 h5
    have hl := hL.len
    obtain ⟨m, rfl⟩ : ∃ q, m = q + 1 := ⟨m - 1, by omega⟩
    cases c : isM L j (bs [44]) with
    | false => exact ⟨_, _, Zg1 (by omega) c, Nat.le_refl _, j, atII, by omega⟩
    | true =>
      have hlt := (Z8h c).1
      obtain ⟨rs, ri, r1, r2, r3⟩ := H kS kI (j + 1) d N 999 hd hkS hkI (by omega) (by omega)
      rw [Zqj (by omega) (by omega) c r2]
      rcases r3 with ⟨j2, N', x, a1, a2, a3, a4, a5, rfl, rfl⟩ | ⟨b1, b2⟩
      · obtain ⟨vi, wi, e1, e2, e3⟩ := ih j2 N' (v ++ [x]) m (by omega) a2 a3 (by rw [List.length_append, List.length_singleton]; omega) (by omega)
        rw [List.length_append, List.length_singleton] at e2
        exact ⟨vi, wi, e1, by omega, e3⟩
      · obtain ⟨m, rfl⟩ : ∃ q, m = q + 1 := ⟨m - 1, by omega⟩
        exact ⟨_, _, Zhl b2.1, by rw [List.length_append, List.length_singleton]; omega, b2.2⟩
theorem Zf1 {k : Nat} {A B C D' F} {R : GXr → Int → Option (GXr × GTerm)} {m : Nat} {nm : ByteArray} {v : List GTerm} {L : List GSign} {i d : Nat} {N : List ByteArray} {rs : GXr × GTerm} (hr : R (SS L i d N) 999 = some rs) (hv : v.length ≤ 4) :
    Z1e k A B C D' F R (m + 1) (GTerm.mk 4 nm 0 v) (SS L i d N) = (Z14 k rs.1 (bs [41])).bind fun l => if l.2 = true then some (.done (GTerm.mk 4 nm 0 (v ++ [rs.2]), l.1)) else (Z12 k l.1 (bs [44])).bind fun j => Z1e k A B C D' F R m (GTerm.mk 4 nm 0 (v ++ [rs.2])) j := by
  rw [Z1e, if_pos (show (!(SS L i d N).gBad) = true from rfl), hr, obs, Z79, if_neg (by rw [decide_eq_true_eq]; omega), if_pos (by rw [List.length_singleton]; omega)]
  rfl
theorem Zp7 {k : Nat} {A B C D' F R} {m : Nat} {c : GTerm} {r : GXr} (h : r.gBad = true) : Z1e k A B C D' F R (m + 1) c r = some (.done (c, r)) := by
  rw [Z1e, if_neg (by rw [h]; decide)]
def Zui (L : List GSign) (d e i0 : Nat) (nm : ByteArray) (ts : GTerm) (ss : GXr) (vi : List GTerm) (wi : GParser) : Prop :=
  (∃ (j : Nat) (N : List ByteArray), i0 < j ∧ j < L.length ∧ N.length ≤ j ∧ (∀ x ∈ vi, x.ok) ∧ 1 + nsum nT vi ≤ j - i0 ∧ vi.length ≤ 5 ∧ isM L j (bs [41]) = true ∧ wi = II L j d N ∧ ss = SS L (j + 1) d N ∧ ts = GTerm.mk 4 nm 0 vi) ∨
  (ss.gBad = true ∧ ∃ jj, atI L jj wi ∧ jj ≤ 3010 + 10 * e ∧ (wi.gBad = true ∨ 5 < vi.length ∨ isM L jj (bs [41]) = false))
theorem Zwp : sEq (bs [41]) (bs [44]) = false := by kernel_rfl
theorem Zwg {L : List GSign} (hL : Toks L) {e : Nat} (H : Zh2 L e) {d : Nat} (hd : d + e = 130) {kS kI : Nat} (hkS : 3100 + 10 * e ≤ kS) (hkI : 3100 + 10 * e ≤ kI) {A B C D' F A' B' C'} {i0 : Nat} {nm : ByteArray} :
    ∀ (n i : Nat) (N : List ByteArray) (v : List GTerm) (m m' : Nat) (rs : GXr × GTerm) (ri : GParser × GTerm), L.length - i ≤ n → i0 < i → v.length ≤ 4 → v.length ≤ i → (∀ x ∈ v, x.ok) → 1 + nsum nT v ≤ i - i0 →
      Z8 kS (SS L i d N) 999 = some rs → Same id L d i (3010 + 10 * e) rs ri → n + 2 < m → n + 2 < m' →
      ∃ ts ss vi wi, Z1e kS A B C D' F (Z8 kS) m (GTerm.mk 4 nm 0 v) (SS L i d N) = some (.done (ts, ss)) ∧ Zv kI A' B' (Z3 kI) C' m' (v ++ [ri.2]) ri.1 = some (.done (vi, wi)) ∧ Zui L d e i0 nm ts ss vi wi := by
  intro n
  induction n with
  | zero =>
    intro i N v m m' rs ri h1 h2 h3 h4 h5 h6 hr hs h7 h8
    obtain ⟨m, rfl⟩ : ∃ q, m = q + 2 := ⟨m - 2, by omega⟩
    obtain ⟨m', rfl⟩ : ∃ q, m' = q + 1 := ⟨m' - 1, by omega⟩
    rcases hs with ⟨j, N', x, a1, a2, a3, a4, a5, rfl, rfl⟩ | ⟨b1, b2⟩
    · omega
    · obtain ⟨r', w1, w2⟩ := Zdd (k := kS) (t := bs [44]) b1
      rw [Zf1 hr h3, Zf2 b1, obs, if_neg Bool.false_ne_true, w1, obs, Zp7 w2, Zhl b2.1]
      exact ⟨_, _, _, _, rfl, rfl, .inr ⟨w2, b2.2.imp fun jj q => ⟨q.1, q.2, .inl b2.1⟩⟩⟩
  | succ n ih =>
    intro i N v m m' rs ri h1 h2 h3 h4 h5 h6 hr hs h7 h8
    have hl := hL.len
    obtain ⟨m, rfl⟩ : ∃ q, m = q + 2 := ⟨m - 2, by omega⟩
    obtain ⟨m', rfl⟩ : ∃ q, m' = q + 1 := ⟨m' - 1, by omega⟩
    rcases hs with ⟨j, N', x, a1, a2, a3, a4, a5, rfl, rfl⟩ | ⟨b1, b2⟩
    · have a5 : 1 + nT x ≤ j - i := a5
      have okv : ∀ y ∈ v ++ [x], y.ok := fun y hy => by
        rcases List.mem_append.1 hy with hy | hy
        · exact h5 y hy
        · rw [List.mem_singleton.1 hy]; exact a4
      have hvl : (v ++ [x]).length = v.length + 1 := by rw [List.length_append, List.length_singleton]
      rw [Zf1 hr h3]
      simp only
      rw [Zf3 (by omega) c41, obs]
      cases c1 : isM L j (bs [41]) with
      | true =>
        rw [if_pos rfl, if_pos rfl, Zg1 (by omega) (Zfv c1 Zwp)]
        exact ⟨_, _, _, _, rfl, rfl, .inl ⟨j, N', by omega, (Z8h c1).1, a3, okv, by rw [Zlw]; omega, by omega, c1, rfl, rfl, rfl⟩⟩
      | false =>
        rw [if_neg Bool.false_ne_true, if_neg (show ¬ (SS L j d N', false).2 = true from Bool.false_ne_true)]
        simp only
        cases c2 : isM L j (bs [44]) with
        | false =>
          rw [Zi5 (by omega) c44 c2, obs, Zp7 rfl, Zg1 (by omega) c2]
          exact ⟨_, _, _, _, rfl, rfl, .inr ⟨rfl, j, atII, by omega, .inr (.inr c1)⟩⟩
        | true =>
          have hlt := (Z8h c2).1
          obtain ⟨rs2, ri2, r1, r2, r3⟩ := H kS kI (j + 1) d N' 999 hd hkS hkI (by omega) (by omega)
          rw [Zi4 (by omega) c44 c2, obs, Zqj (by omega) (by omega) c2 r2]
          by_cases c4 : v.length + 1 ≤ 4
          · exact ih (j + 1) N' (v ++ [x]) (m + 1) m' rs2 ri2 (by omega) (by omega) (by omega) (by omega) okv (by rw [Zlw]; omega) r1 r3 (by omega) (by omega)
          · rw [Z1e, if_pos (show (!(SS L (j + 1) d N').gBad) = true from rfl), r1, obs, Z79, if_pos (by rw [decide_eq_true_eq]; omega)]
            rcases r3 with ⟨j2, N2, x2, d1, d2, d3, d4, d5, rfl, rfl⟩ | ⟨b1, b2⟩
            · obtain ⟨vi, wi, e1, e2, e3⟩ := Zrf hL H hd hkS hkI (A := A') (B := B') (C := C') n j2 N2 (v ++ [x] ++ [x2]) m' (by omega) d2 d3 (by rw [List.length_append, List.length_singleton]; omega) (by omega)
              rw [List.length_append, List.length_singleton] at e2
              exact ⟨_, _, vi, wi, rfl, e1, .inr ⟨rfl, e3.imp fun jj q => ⟨q.1, q.2, .inr (.inl (by omega))⟩⟩⟩
            · obtain ⟨m', rfl⟩ : ∃ q, m' = q + 1 := ⟨m' - 1, by omega⟩
              exact ⟨_, _, _, _, rfl, Zhl b2.1, .inr ⟨rfl, b2.2.imp fun jj q => ⟨q.1, q.2, .inl b2.1⟩⟩⟩
    · obtain ⟨r', w1, w2⟩ := Zdd (k := kS) (t := bs [44]) b1
      rw [Zf1 hr h3, Zf2 b1, obs, if_neg Bool.false_ne_true, w1, obs, Zp7 w2, Zhl b2.1]
      exact ⟨_, _, _, _, rfl, rfl, .inr ⟨w2, b2.2.imp fun jj q => ⟨q.1, q.2, .inl b2.1⟩⟩⟩
def Zay (z : GTerm) : List GTerm → GTerm
  | [] => z
  | x :: r => .mk 4 (bs [46]) 0 [x, Zay z r]
theorem Zdo (z a : GTerm) : ∀ v : List GTerm, Zay z (v ++ [a]) = Zay (.mk 4 (bs [46]) 0 [a, z]) v
  | [] => rfl
  | x :: r => by rw [List.cons_append, Zay, Zay, Zdo z a r]
theorem Zv3 {k : Nat} {A B C D' F R} {v : List GTerm} (hv : v.length ≤ 3100) : ∀ (j m : Nat) (b : GTerm), j ≤ v.length → j < m →
    Z2x k A B C D' F R v m ((j : Int) - 1) b = some (.done (Zay b (v.take j)))
  | 0, m + 1, b, _, _ => by
    rw [Z2x, if_neg (by simp)]
    rfl
  | j + 1, m + 1, b, h1, h2 => by
    have e : ((j + 1 : Nat) : Int) - 1 = (j : Int) := by omega
    have w : wr.i64 ((j : Int) - 1) = (j : Int) - 1 := by rw [Z2k (by omega) (by omega)]
    have hj : j < v.length := by omega
    rw [e, Z2x, if_pos (by simp), Z7r hj, obs]
    unfold Zao
    rw [obs, w, Zv3 hv j m _ (by omega) (by omega), ← List.take_append_getElem hj, Zdo]
theorem Zvv {k : Nat} {A B R C} {w : GParser} {v : List GTerm} (hv : v.length ≤ 3100) : ∀ (j m : Nat) (b : GTerm), j ≤ v.length → j < m →
    Z2j k A B R C (w, v) m ((j : Int) - 1) b = some (.done (Zay b (v.take j)))
  | 0, m + 1, b, _, _ => by
    rw [Z2j, if_neg (by simp)]
    rfl
  | j + 1, m + 1, b, h1, h2 => by
    have e : ((j + 1 : Nat) : Int) - 1 = (j : Int) := by omega
    have w : wr.i64 ((j : Int) - 1) = (j : Int) - 1 := by rw [Z2k (by omega) (by omega)]
    have hj : j < v.length := by omega
    rw [e, Z2j, if_pos (by simp), Z7r hj, obs]
    unfold Z3j
    rw [obs, w, Zvv hv j m _ (by omega) (by omega), ← List.take_append_getElem hj, Zdo]
theorem Zrk {k : Nat} {A B C D' F R} {v : List GTerm} (hv : v.length ≤ 3100) {m : Nat} (hm : 3100 < m) (b : GTerm) : Z2x k A B C D' F R v m (wr.i64 ((v.length : Int) - 1)) b = some (.done (Zay b v)) := by
  rw [Z2k (by omega) (by omega), Zv3 hv v.length m b (Nat.le_refl _) (by omega), List.take_length]
theorem Ziy {z : GTerm} (hz : z.ok) : ∀ {v : List GTerm}, (∀ x ∈ v, x.ok) → (Zay z v).ok
  | [], _ => hz
  | x :: r, h => ok2 (by unfold okFs; rw [Z15]; decide) (h x (List.mem_cons_self ..)) (Ziy hz fun y hy => h y (List.mem_cons_of_mem _ hy))
theorem Ziz (z : GTerm) : ∀ v : List GTerm, 1 + nT (Zay z v) = v.length + nsum nT v + (1 + nT z)
  | [] => by show 1 + nT z = 0 + 0 + (1 + nT z); omega
  | x :: r => by
    have ih := Ziz z r
    rw [Zay, Zeb, List.length_cons]
    show 1 + (1 + nT x + (1 + nT (Zay z r) + 0)) = r.length + 1 + (1 + nT x + nsum nT r) + (1 + nT z)
    omega
def nilT : GTerm := .mk 2 (bs [91, 93]) 0 []
theorem Zpr {s : ByteArray} (h : s.size ≤ 3000) : (GTerm.mk 2 s 0 []).ok :=
  .mk _ _ _ _ (by unfold okI; decide) (by unfold okFs; rw [Z15]; omega) (by unfold okI; decide) (by rw [Z15]; simp) (fun z hz => by cases hz)
theorem Zsq : nilT.ok := Zpr (by decide)
theorem Zsr : nT nilT = 0 := by unfold nilT; rw [Zeb]; rfl
def Zoa (k : Nat) (A : GParser → Option (GParser × GTerm)) (B : GParser → Int → Option (GParser × GTerm × Int)) (R : GParser → Int → Option (GParser × GTerm)) (C : GParser → Option (GParser × List GTerm)) (q : GParser × List GTerm) : Option (GParser × GTerm) :=
  (Zy k q.1 0 (bs [124])).bind fun y =>
  if y.2 = true then
    (R (GParser.mk y.1.gList (wr.i64 (y.1.gAt + 1)) y.1.gNames y.1.gDeep y.1.gBad) 999).bind fun b => Z16 k A B R C q b.2 b.1
  else
    Z16 k A B R C q nilT y.1
theorem iJ1 {k : Nat} (hk : 3100 < k) {A B R C} {q w : GParser} {v : List GTerm} (hv : v.length ≤ 3100) {c : GTerm} {L : List GSign} {j : Nat} (h : atI L j w) (hj : j ≤ 100000) :
    Z16 k A B R C (q, v) c w = some (GParser.mk L ((j + 1 : Nat) : Int) w.gNames w.gDeep (if isM L j (bs [93]) = true then w.gBad else true), Zay c v) := by
  unfold Z16
  rw [Zm8 h hj, obs, Z2k (by simp; omega) (by simp; omega), Zvv hv v.length k c (Nat.le_refl _) (by omega), List.take_length]
  simp only [obs]
theorem Zqh {k : Nat} (hk : 3100 < k) {A B R C} {w : GParser} {v : List GTerm} (hv : v.length ≤ 3100) {L : List GSign} {j : Nat} (h : atI L j w) (hj : j ≤ 100000) (hb : isM L j (bs [124]) = false) :
    Zoa k A B R C (w, v) = some (GParser.mk L ((j + 1 : Nat) : Int) w.gNames w.gDeep (if isM L j (bs [93]) = true then w.gBad else true), Zay nilT v) := by
  unfold Zoa
  rw [Zcz h hj, obs, hb, if_neg Bool.false_ne_true, iJ1 hk hv h hj]
theorem Zt1 {k : Nat} {A B C} {R : GParser → Int → Option (GParser × GTerm)} {w : GParser} {v : List GTerm} {L : List GSign} {j : Nat} (h : atI L j w) (hj : j ≤ 100000) (hb : isM L j (bs [124]) = true) {rb : GParser × GTerm} (hr : R (GParser.mk L ((j + 1 : Nat) : Int) w.gNames w.gDeep w.gBad) 999 = some rb) :
    Zoa k A B R C (w, v) = Z16 k A B R C (w, v) rb.2 rb.1 := by
  unfold Zoa
  rw [Zcz h hj, obs, hb, if_pos rfl]
  simp only
  rw [h.1, h.2, wsuc hj, hr, obs]
theorem Zvs {k : Nat} {w : GParser} {most : Int} (h : w.gBad = true) : Z3 (k + 1) w most = some (GParser.mk w.gList w.gAt w.gNames w.gDeep true, GTerm.mk 0 (bs []) 0 []) := by
  rw [Z3, h, ite_self]
  unfold Z3l
  rw [if_pos rfl]
theorem Znk {k : Nat} (hk : 3100 < k) {A B C} {w : GParser} {v : List GTerm} (hv : v.length ≤ 3100) {L : List GSign} {Bd : Nat} (h : IBad L Bd w) (hB : Bd ≤ 90000) : ∃ rI, Zoa k A B (Z3 k) C (w, v) = some rI ∧ IBad L (Bd + 2) rI.1 := by
  obtain ⟨h1, j, h2, h3⟩ := h
  cases c : isM L j (bs [124]) with
  | false =>
    rw [Zqh hk hv h2 (by omega) c]
    refine ⟨_, rfl, ?_, j + 1, ⟨rfl, rfl⟩, by omega⟩
    show (if isM L j (bs [93]) = true then w.gBad else true) = true
    rw [h1]; simp
  | true =>
    obtain ⟨k, rfl⟩ : ∃ q, k = q + 1 := ⟨k - 1, by omega⟩
    rw [Zt1 h2 (by omega) c (Zvs h1), iJ1 (j := j + 1) hk hv ⟨rfl, rfl⟩ (by omega)]
    refine ⟨_, rfl, ?_, j + 1 + 1, ⟨rfl, rfl⟩, by omega⟩
    show (if isM L (j + 1) (bs [93]) = true then true else true) = true
    simp
theorem Zi6 {k : Nat} {A B C D' F} {R : GXr → Int → Option (GXr × GTerm)} {m : Nat} {b : GTerm} {v : List GTerm} {L : List GSign} {i d : Nat} {N : List ByteArray} {rs : GXr × GTerm} (hr : R (SS L i d N) 999 = some rs) (hv : v.length ≤ 3100) :
    Z1q k A B C D' F R b (m + 1) v (SS L i d N) = (Z14 k rs.1 (bs [93])).bind fun l => if l.2 = true then some (.done (v ++ [rs.2], b, l.1)) else (Z14 k l.1 (bs [124])).bind fun l => if l.2 = true then (R l.1 999).bind fun n => (Z12 k n.1 (bs [93])).bind fun j => some (.done (v ++ [rs.2], n.2, j)) else (Z12 k l.1 (bs [44])).bind fun j => Z1q k A B C D' F R b m (v ++ [rs.2]) j := by
  rw [Z1q, if_pos (show (!(SS L i d N).gBad) = true from rfl), hr, obs, if_pos (by rw [List.length_singleton]; omega)]
theorem Zth {k : Nat} {A B C D' F R} {m : Nat} {b : GTerm} {v : List GTerm} {r : GXr} (h : r.gBad = true) : Z1q k A B C D' F R b (m + 1) v r = some (.done (v, b, r)) := by
  rw [Z1q, if_neg (by rw [h]; decide)]
def Zw8 (L : List GSign) (d e i0 : Nat) (vs : List GTerm) (cs : GTerm) (ss : GXr) (rI : GParser × GTerm) : Prop :=
  (∃ (j : Nat) (N : List ByteArray), i0 < j ∧ j ≤ L.length ∧ N.length ≤ j ∧ (Zay cs vs).ok ∧ 1 + nT (Zay cs vs) ≤ j - i0 ∧ ss = SS L j d N ∧ rI = (II L j d N, Zay cs vs)) ∨
  (ss.gBad = true ∧ IBad L (3013 + 10 * e) rI.1)
theorem Zve : sEq (bs [93]) (bs [44]) = false := by kernel_rfl
theorem Ztu : sEq (bs [93]) (bs [124]) = false := by kernel_rfl
theorem Ztv : sEq (bs [124]) (bs [44]) = false := by kernel_rfl
theorem rowS {L : List GSign} (hL : Toks L) {e : Nat} (he : e ≤ 130) (H : Zh2 L e) {d : Nat} (hd : d + e = 130) {kS kI kJ : Nat} (hkS : 3101 + 10 * e ≤ kS) (hkI : 3101 + 10 * e ≤ kI) (hkJ : 3101 + 10 * e ≤ kJ) {A B C D' F A' B' C' A2 B2 C2} {i0 : Nat} :
    ∀ (n i : Nat) (N : List ByteArray) (v : List GTerm) (m m' : Nat) (rs : GXr × GTerm) (ri : GParser × GTerm), L.length - i ≤ n → i0 < i → v.length ≤ i → (∀ x ∈ v, x.ok) → v.length + nsum nT v ≤ i - i0 - 1 →
      Z8 kS (SS L i d N) 999 = some rs → Same id L d i (3010 + 10 * e) rs ri → i ≤ L.length → n + 2 < m → n + 2 < m' →
      ∃ vs cs ss vi wi rI, Z1q kS A B C D' F (Z8 kS) nilT m v (SS L i d N) = some (.done (vs, cs, ss)) ∧ vs.length ≤ 3001 ∧ Zv kI A' B' (Z3 kI) C' m' (v ++ [ri.2]) ri.1 = some (.done (vi, wi)) ∧ Zoa kJ A2 B2 (Z3 kJ) C2 (wi, vi) = some rI ∧ Zw8 L d e i0 vs cs ss rI := by
  intro n
  induction n with
  | zero =>
    intro i N v m m' rs ri h1 h2 h4 h5 h6 hr hs hi h7 h8
    have hl := hL.len
    obtain ⟨m, rfl⟩ : ∃ q, m = q + 2 := ⟨m - 2, by omega⟩
    obtain ⟨m', rfl⟩ : ∃ q, m' = q + 1 := ⟨m' - 1, by omega⟩
    rcases hs with ⟨j, N', x, a1, a2, a3, a4, a5, rfl, rfl⟩ | ⟨b1, b2⟩
    · omega
    · obtain ⟨r', w1, w2⟩ := Zdd (k := kS) (t := bs [44]) b1
      have hvl : (v ++ [ri.2]).length ≤ 3001 := by rw [List.length_append, List.length_singleton]; omega
      obtain ⟨rI, q1, q2⟩ := Znk (k := kJ) (by omega) (A := A2) (B := B2) (C := C2) (v := v ++ [ri.2]) (by omega) b2 (by omega)
      rw [Zi6 hr (by omega), Zf2 b1, obs, if_neg Bool.false_ne_true, Zf2 b1, obs, if_neg Bool.false_ne_true, w1, obs, Zth w2, Zhl b2.1]
      exact ⟨_, _, _, _, _, rI, rfl, by rw [List.length_append, List.length_singleton]; omega, rfl, q1, .inr ⟨w2, q2.le (by omega)⟩⟩
  | succ n ih =>
    intro i N v m m' rs ri h1 h2 h4 h5 h6 hr hs hi h7 h8
    have hl := hL.len
    obtain ⟨m, rfl⟩ : ∃ q, m = q + 2 := ⟨m - 2, by omega⟩
    obtain ⟨m', rfl⟩ : ∃ q, m' = q + 1 := ⟨m' - 1, by omega⟩
    rcases hs with ⟨j, N', x, a1, a2, a3, a4, a5, rfl, rfl⟩ | ⟨b1, b2⟩
    · have a5 : 1 + nT x ≤ j - i := a5
      have okv : ∀ y ∈ v ++ [x], y.ok := fun y hy => by
        rcases List.mem_append.1 hy with hy | hy
        · exact h5 y hy
        · rw [List.mem_singleton.1 hy]; exact a4
      have hvl : (v ++ [x]).length = v.length + 1 := by rw [List.length_append, List.length_singleton]
      have hns : (v ++ [x]).length + nsum nT (v ++ [x]) ≤ j - i0 := by rw [hvl, Zlw]; omega
      rw [Zi6 hr (by omega)]
      simp only
      rw [Zf3 (by omega) c93, obs]
      cases c1 : isM L j (bs [93]) with
      | true =>
        have hlt := (Z8h c1).1
        rw [if_pos rfl, if_pos rfl, Zg1 (by omega) (Zfv c1 Zve)]
        refine ⟨_, _, _, _, _, _, rfl, by omega, rfl, Zqh (by omega) (by omega) atII (by omega) (Zfv c1 Ztu), .inl ⟨j + 1, N', by omega, by omega, by omega, Ziy Zsq okv, ?_, rfl, ?_⟩⟩
        · rw [Ziz, Zsr]; omega
        · rw [c1, if_pos rfl]; rfl
      | false =>
        rw [if_neg Bool.false_ne_true, if_neg (show ¬ (SS L j d N', false).2 = true from Bool.false_ne_true)]
        simp only
        rw [Zf3 (by omega) c124, obs]
        cases c2 : isM L j (bs [124]) with
        | true =>
          have hlt := (Z8h c2).1
          obtain ⟨rs2, ri2, r1, r2, r3⟩ := H kS kJ (j + 1) d N' 999 hd (by omega) (by omega) (by omega) (by omega)
          rw [if_pos rfl, if_pos rfl, Zg1 (by omega) (Zfv c2 Ztv)]
          simp only
          rw [r1, obs]
          have hb := Zt1 (k := kJ) (A := A2) (B := B2) (C := C2) (R := Z3 kJ) (w := II L j d N') (v := v ++ [x]) atII (by omega) c2 r2
          rcases r3 with ⟨j2, N2, x2, d1, d2, d3, d4, d5, rfl, rfl⟩ | ⟨b1, b2⟩
          · have d5 : 1 + nT x2 ≤ j2 - (j + 1) := d5
            have hJ := iJ1 (k := kJ) (by omega) (A := A2) (B := B2) (R := Z3 kJ) (C := C2) (q := II L j d N') (w := II L j2 d N2) (v := v ++ [x]) (by omega) (c := x2) atII (by omega)
            cases c3 : isM L j2 (bs [93]) with
            | true =>
              have hlt2 := (Z8h c3).1
              simp only
              rw [Zi4 (by omega) c93 c3, obs]
              refine ⟨_, _, _, _, _, _, rfl, by omega, rfl, hb.trans hJ, .inl ⟨j2 + 1, N2, by omega, by omega, by omega, Ziy d4 okv, ?_, rfl, ?_⟩⟩
              · rw [Ziz]; omega
              · rw [c3, if_pos rfl]; rfl
            | false =>
              simp only
              rw [Zi5 (by omega) c93 c3, obs]
              refine ⟨_, _, _, _, _, _, rfl, by omega, rfl, hb.trans hJ, .inr ⟨rfl, ?_, j2 + 1, ⟨rfl, rfl⟩, by omega⟩⟩
              rw [c3]; rfl
          · obtain ⟨r', w1, w2⟩ := Zdd (k := kS) (t := bs [93]) b1
            obtain ⟨b3, jj, b4, b5⟩ := b2
            have hJ := iJ1 (k := kJ) (by omega) (A := A2) (B := B2) (R := Z3 kJ) (C := C2) (q := II L j d N') (w := ri2.1) (v := v ++ [x]) (by omega) (c := ri2.2) b4 (by omega)
            rw [w1, obs]
            refine ⟨_, _, _, _, _, _, rfl, by omega, rfl, hb.trans hJ, .inr ⟨w2, ?_, jj + 1, ⟨rfl, rfl⟩, by omega⟩⟩
            show (if isM L jj (bs [93]) = true then ri2.1.gBad else true) = true
            rw [b3]; simp
        | false =>
          rw [if_neg Bool.false_ne_true, if_neg (show ¬ (SS L j d N', false).2 = true from Bool.false_ne_true)]
          simp only
          cases c3 : isM L j (bs [44]) with
          | false =>
            rw [Zi5 (by omega) c44 c3, obs, Zth rfl, Zg1 (by omega) c3]
            refine ⟨_, _, _, _, _, _, rfl, by omega, rfl, Zqh (by omega) (by omega) atII (by omega) c2, .inr ⟨rfl, ?_, j + 1, ⟨rfl, rfl⟩, by omega⟩⟩
            rw [c1]; rfl
          | true =>
            have hlt := (Z8h c3).1
            obtain ⟨rs2, ri2, r1, r2, r3⟩ := H kS kI (j + 1) d N' 999 hd (by omega) (by omega) (by omega) (by omega)
            rw [Zi4 (by omega) c44 c3, obs, Zqj (by omega) (by omega) c3 r2]
            exact ih (j + 1) N' (v ++ [x]) (m + 1) m' rs2 ri2 (by omega) (by omega) (by omega) okv (by omega) r1 r3 (by omega) (by omega) (by omega)
    · obtain ⟨r', w1, w2⟩ := Zdd (k := kS) (t := bs [44]) b1
      have hvl : (v ++ [ri.2]).length ≤ 3001 := by rw [List.length_append, List.length_singleton]; omega
      obtain ⟨rI, q1, q2⟩ := Znk (k := kJ) (by omega) (A := A2) (B := B2) (C := C2) (v := v ++ [ri.2]) (by omega) b2 (by omega)
      rw [Zi6 hr (by omega), Zf2 b1, obs, if_neg Bool.false_ne_true, Zf2 b1, obs, if_neg Bool.false_ne_true, w1, obs, Zth w2, Zhl b2.1]
      exact ⟨_, _, _, _, _, rI, rfl, by rw [List.length_append, List.length_singleton]; omega, rfl, q1, .inr ⟨w2, q2.le (by omega)⟩⟩
theorem Zvt {k : Nat} {L : List GSign} {i : Nat} {w : GParser} (h : atI L i w) (hi : i + 1 ≤ 100000) : Z2c k w 1 = some (w, tkn L (i + 1)) := Zu2 (b := 1) h hi
theorem Zws {k : Nat} {L : List GSign} {i : Nat} {w : GParser} {t : ByteArray} (h : atI L i w) (hi : i + 2 ≤ 100000) : Zy k w 2 t = some (w, isM L (i + 2) t) := iIsM (b := 2) h hi
theorem Zos {n : Nat} (h : n ≤ 90000) : wr.i64 ((n : Int) + 2) = ((n + 2 : Nat) : Int) := wadd (b := 2) (by omega)
theorem Zwb {n : Nat} (h : n ≤ 90000) : wr.i64 ((n : Int) + 3) = ((n + 3 : Nat) : Int) := wadd (b := 3) (by omega)
theorem Zop {n : Nat} (h : n ≤ 90000) : wr.i64 (((n + 1 : Nat) : Int) - 1) = (n : Int) := by rw [Z2k (by omega) (by omega)]; omega
theorem Zw9 {n : Nat} (h : n ≤ 90000) : wr.i64 (((n + 2 : Nat) : Int) - 2) = (n : Int) := by rw [Z2k (by omega) (by omega)]; omega
theorem eta3 {α β γ : Type} {x : Option (α × β × γ)} : (x.bind fun o => some (o.1, o.2.1, o.2.2)) = x := by cases x <;> rfl
theorem Zn7 {nm : ByteArray} {l : List GTerm} (hn : nm.size ≤ 3000) (hl : l.length ≤ 5) (h : ∀ x ∈ l, x.ok) : (GTerm.mk 4 nm 0 l).ok :=
  .mk _ _ _ _ (by unfold okI; decide) (by unfold okFs; rw [Z15]; omega) (by unfold okI; decide) (by rw [Z15]; omega) h
theorem Zv9 {n : Int} (h1 : -1000000000 ≤ n) (h2 : n ≤ 1000000000) : (GTerm.mk 3 (bs []) n []).ok := by
  have e1 : IntKind.min .i64 = -9223372036854775808 := by decide
  have e2 : IntKind.max .i64 = 9223372036854775807 := by decide
  exact .mk _ _ _ _ (by unfold okI; decide) (by unfold okFs; rw [Z15]; decide) (by unfold okI; rw [e1, e2]; omega) (by rw [Z15]; simp) (fun z hz => by cases hz)
theorem Zqi {k : Nat} {L : List GSign} {i d : Nat} {N : List ByteArray} {most : Int} (hi : i ≤ 3000) :
    Z1 (k + 1) (II L i d N) most = if ((tkn L i).gKind == 1) = true then Z13 k (Z4 k) (Z1 k) (Z3 k) (Z7 k) (II L i d N, tkn L (i + 1)) (II L i d N, tkn L i) (pfx (tkn L i).gText) (ifx (tkn L i).gText) most (tkn L i).gNear
      else Z13 k (Z4 k) (Z1 k) (Z3 k) (Z7 k) (II L i d N, tkn L (i + 1)) (II L i d N, tkn L i) (pfx (tkn L i).gText) (ifx (tkn L i).gText) most false := by
  rw [Z1, Zqg atII (by omega), obs]
  simp only
  rw [Ztn, obs, Zsz, obs, Zvt atII (by omega), obs]
theorem Zrv {L : List GSign} (hL : Toks L) {e : Nat} (H : Zh2 L e) {d : Nat} (hd : d + e = 130) {kS kI : Nat} (hkS : 3105 + 10 * e ≤ kS) (hkI : 3105 + 10 * e ≤ kI) {i : Nat} {N : List ByteArray} {most : Int} (hi : i ≤ L.length) (hN : N.length ≤ i)
    (k1 : (tkn L i).gKind = 1) (hn : (tkn L i).gNear = true) : ∃ rs ri, Z2 kS (SS L i d N) most = some rs ∧ Z1 kI (II L i d N) most = some ri ∧ Same Prod.fst L d i (3020 + 10 * e) rs ri := by
  have hl := hL.len
  have hlt : i < L.length := tkn_lt' (by rw [k1]; decide)
  have hz := (hL.tk _ (Zbt hlt)).2.1
  obtain ⟨y, y1, y2, y3⟩ := hL.nr i (tkn L i) (by unfold tkn; rw [List.getElem?_eq_getElem hlt]; rfl) hn
  have hlt1 : i + 1 < L.length := (List.getElem?_eq_some_iff.1 y1).1
  have m40 : isM L (i + 1) (bs [40]) = true := by
    have : tkn L (i + 1) = y := by unfold tkn; rw [y1]; rfl
    unfold isM; rw [this, y2, y3, Zi7]; decide
  obtain ⟨kS, rfl⟩ : ∃ q, kS = q + 3 := ⟨kS - 3, by omega⟩
  obtain ⟨kI, rfl⟩ : ∃ q, kI = q + 2 := ⟨kI - 2, by omega⟩
  obtain ⟨rs, ri, r1, r2, r3⟩ := H kS kI (i + 2) d N 999 hd (by omega) (by omega) (by omega) (by omega)
  obtain ⟨ts, ss, vi, wi, s1, s2, s3⟩ := Zwg hL H hd (kS := kS) (kI := kI) (by omega) (by omega) (A := Zc kS) (B := Z2 kS) (C := Zb kS) (D' := Ze kS) (F := Zd kS) (A' := Z4 kI) (B' := Z1 kI) (C' := Z7 kI) (i0 := i) (nm := (tkn L i).gText) (L.length - (i + 2)) (i + 2) N [] kS kI rs ri (Nat.le_refl _) (by omega) (by simp) (by simp) (fun x hx => by cases hx) (by show 1 + 0 ≤ _; omega) r1 r3 (by omega) (by omega)
  have hS : Z2 (kS + 3) (SS L i d N) most = some (ss, ts, 0) := by
    rw [Z2, sIs0 (by decide), obs, k1, if_pos (show (SS L i d N, ((1 : Int) == 1)).2 = true from rfl), eta3, Zc]
    show ((at' L (i : Int)).bind _) = _
    rw [Z8o hlt, obs, hn, if_pos rfl, show (SS L i d N).gAt = (i : Int) from rfl, Zos (by omega), Zd]
    show (Option.bind (Option.bind (Z1e kS _ _ _ _ _ _ kS (GTerm.mk 4 (tkn L i).gText 0 []) (SS L (i + 2) d N)) _) _) = _
    rw [s1]; rfl
  have hI : Z1 (kI + 2) (II L i d N) most = (Z2d (kI + 1) wi (bs [41])).bind fun w => if decide ((vi.length : Int) > 5) = true then some (GParser.mk w.gList w.gAt w.gNames w.gDeep true, GTerm.mk 4 (tkn L i).gText 0 vi, 0) else some (w, GTerm.mk 4 (tkn L i).gText 0 vi, 0) := by
    rw [Zqi (by omega), k1, if_pos (by decide), hn]
    unfold Z13 Z3j
    rw [if_pos rfl]
    simp only
    rw [show (II L i d N).gAt = (i : Int) from rfl, wsuc (by omega), Zm8 (L := L) (i := i + 1) ⟨rfl, rfl⟩ (by omega), m40, obs, if_pos rfl]
    show (Option.bind (Z7 (kI + 1) (II L (i + 2) d N)) _) = _
    rw [Z7, r2, obs]
    have s2 : Zv kI (Z4 kI) (Z1 kI) (Z3 kI) (Z7 kI) kI [ri.2] ri.1 = some (.done (vi, wi)) := s2
    rw [s2]
    rfl
  rw [hS, hI]
  rcases s3 with ⟨j, N', a1, a2, a3, a4, a5, a6, a7, rfl, rfl, rfl⟩ | ⟨b1, jj, b2, b3, b4⟩
  · rw [Zm8 atII (by omega), obs, a7, if_pos rfl, if_neg (by rw [decide_eq_true_eq]; omega)]
    exact ⟨_, _, rfl, rfl, .inl ⟨j + 1, N', _, by omega, by omega, by omega, Zn7 hz a6 a4, by show 1 + nT (GTerm.mk 4 _ 0 vi) ≤ _; rw [Zeb]; omega, rfl, rfl⟩⟩
  · rw [Zm8 b2 (by omega), obs]
    by_cases c5 : 5 < vi.length
    · rw [if_pos (by rw [decide_eq_true_eq]; omega)]
      exact ⟨_, _, rfl, rfl, .inr ⟨b1, rfl, jj + 1, ⟨rfl, rfl⟩, by omega⟩⟩
    · rw [if_neg (by rw [decide_eq_true_eq]; omega)]
      refine ⟨_, _, rfl, rfl, .inr ⟨b1, ?_, jj + 1, ⟨rfl, rfl⟩, by omega⟩⟩
      show (if isM L jj (bs [41]) = true then wi.gBad else true) = true
      rcases b4 with b4 | b4 | b4
      · rw [b4]; simp
      · exact absurd b4 c5
      · rw [b4]; rfl
def Zjv (L : List GSign) (i : Nat) : Bool := ((tkn L (i + 1)).gKind == 3) && ((tkn L (i + 1)).gAt == wr.i64 ((tkn L i).gAt + 1))
theorem Zwi {k : Nat} {L : List GSign} {i d : Nat} {N : List ByteArray} (hi : i < L.length) (hl : L.length ≤ 3000) : Z5a k (SS L i d N) = some (SS L i d N, Zjv L i) := by
  unfold Z5a Zjv
  rw [show (SS L i d N).gAt = (i : Int) from rfl, wsuc (by omega), show (SS L i d N).gList = L from rfl]
  by_cases c : i + 1 < L.length
  · rw [if_pos (by rw [decide_eq_true_eq]; omega), Z8o c, obs]
    cases (tkn L (i + 1)).gKind == 3 with
    | true => rw [if_pos rfl, obs, Z8o hi, obs]; rfl
    | false => rw [if_neg Bool.false_ne_true]; rfl
  · rw [if_neg (by rw [decide_eq_true_eq]; omega), Zh3 c]; rfl
theorem iJ2f {k : Nat} {A B R C} {L : List GSign} {i d : Nat} {N : List ByteArray} {pre inf : GOp × Bool} {most : Int} (hi : i ≤ 3000) (h40 : isM L i (bs [40]) = false) (h91 : isM L i (bs [91]) = false) :
    Z13 k A B R C (II L i d N, tkn L (i + 1)) (II L i d N, tkn L i) pre inf most false =
    if ((tkn L i).gKind == 3) = true then some (II L (i + 1) d N, GTerm.mk 3 (bs []) (tkn L i).gNum [], 0)
    else if ((tkn L i).gKind == 2) = true then (Z37 k (II L (i + 1) d N) (tkn L i).gText).bind fun b => some (b.1, b.2, 0)
    else Z1g k A B R C (II L i d N, tkn L (i + 1)) (II L i d N, false) (II L i d N, tkn L i) pre inf most (((tkn L i).gKind == 1) && (sEq (tkn L i).gText (bs [45]) && Zjv L i)) := by
  unfold Z13
  rw [if_neg Bool.false_ne_true]
  simp only
  rw [Zcz atII (by omega), obs, h40, if_neg (show ¬ (II L i d N, false).2 = true from Bool.false_ne_true)]
  unfold Z1h
  rw [if_neg Bool.false_ne_true]
  simp only
  rw [Zcz atII (by omega), obs, h40, if_neg (show ¬ (II L i d N, false).2 = true from Bool.false_ne_true)]
  simp only
  rw [Zcz atII (by omega), obs, h91, if_neg (show ¬ (II L i d N, false).2 = true from Bool.false_ne_true)]
  unfold Z9a
  simp only
  rw [show (II L i d N).gAt = (i : Int) from rfl, wsuc (by omega)]
  cases (tkn L i).gKind == 3 with
  | true => rw [if_pos rfl, if_pos rfl, obs]; rfl
  | false =>
    rw [if_neg Bool.false_ne_true, if_neg Bool.false_ne_true]
    cases (tkn L i).gKind == 2 with
    | true => rw [if_pos rfl, if_pos rfl]; rfl
    | false =>
      rw [if_neg Bool.false_ne_true, if_neg Bool.false_ne_true]
      unfold Zjv
      cases (tkn L i).gKind == 1 with
      | false => rw [if_neg Bool.false_ne_true]; rfl
      | true =>
        rw [if_pos rfl, Bool.true_and]
        cases sEq (tkn L i).gText (bs [45]) with
        | false => rw [if_neg Bool.false_ne_true]; rfl
        | true =>
          rw [if_pos rfl, Bool.true_and]
          cases (tkn L (i + 1)).gKind == 3 with
          | false => rw [if_neg Bool.false_ne_true]; rfl
          | true => rw [if_pos rfl]; rfl
theorem Zry {L : List GSign} (hL : Toks L) {e : Nat} (H : Zh2 L e) {d : Nat} (hd : d + e = 130) {kS kI : Nat} (hkS : 3105 + 10 * e ≤ kS) (hkI : 3105 + 10 * e ≤ kI) {i : Nat} {N : List ByteArray} {most : Int} (hi : i ≤ L.length) (hN : N.length ≤ i)
    (k1 : (tkn L i).gKind = 1) (hn : (tkn L i).gNear = false) : ∃ rs ri, Z2 kS (SS L i d N) most = some rs ∧ Z1 kI (II L i d N) most = some ri ∧ Same Prod.fst L d i (3020 + 10 * e) rs ri := by
  have hl := hL.len
  have hlt : i < L.length := tkn_lt' (by rw [k1]; decide)
  have hz := (hL.tk _ (Zbt hlt)).2.1
  obtain ⟨kS, rfl⟩ : ∃ q, kS = q + 2 := ⟨kS - 2, by omega⟩
  obtain ⟨kI, rfl⟩ : ∃ q, kI = q + 1 := ⟨kI - 1, by omega⟩
  have nM : ∀ t, isM L i t = false := fun t => Zvp (by rw [k1]; decide)
  have hS : Z2 (kS + 2) (SS L i d N) most = Z43 kS (Zc kS) (Z2 kS) (Zb kS) (Ze kS) (Zd kS) (Z8 kS) (tkn L i) most (sEq (tkn L i).gText (bs [45]) && Zjv L i) (SS L i d N) := by
    rw [Z2, sIs0 (by decide), obs, k1, if_pos (show (SS L i d N, ((1 : Int) == 1)).2 = true from rfl), eta3, Zc]
    show ((at' L (i : Int)).bind _) = _
    rw [Z8o hlt, obs, hn, if_neg Bool.false_ne_true]
    cases sEq (tkn L i).gText (bs [45]) with
    | true => rw [if_pos rfl, Zwi hlt hl, obs]; rfl
    | false => rw [if_neg Bool.false_ne_true]; rfl
  have hI : Z1 (kI + 1) (II L i d N) most = Z1g kI (Z4 kI) (Z1 kI) (Z3 kI) (Z7 kI) (II L i d N, tkn L (i + 1)) (II L i d N, false) (II L i d N, tkn L i) (pfx (tkn L i).gText) (ifx (tkn L i).gText) most (sEq (tkn L i).gText (bs [45]) && Zjv L i) := by
    rw [Zqi (by omega), k1, if_pos (by decide), hn, iJ2f (by omega) (nM _) (nM _), k1, if_neg (by decide), if_neg (by decide)]
    rfl
  rw [hS, hI]
  unfold Z43 Z1g
  cases c : (sEq (tkn L i).gText (bs [45]) && Zjv L i) with
  | true =>
    rw [if_pos rfl, if_pos rfl]
    have c' := c
    unfold Zjv at c'
    rw [Bool.and_eq_true, Bool.and_eq_true, beq_iff_eq] at c'
    have hlt1 : i + 1 < L.length := tkn_lt' (by rw [c'.2.1]; decide)
    have hz1 := (hL.tk _ (Zbt hlt1)).2.2
    have w1 : wr.i64 (wr.i64 ((SS L i d N).gAt + 2) - 1) = ((i + 1 : Nat) : Int) := by
      rw [show (SS L i d N).gAt = (i : Int) from rfl, Zos (by omega)]; exact Zop (n := i + 1) (by omega)
    have w2 : wr.i64 (0 - (tkn L (i + 1)).gNum) = 0 - (tkn L (i + 1)).gNum := Z2k (by omega) (by omega)
    rw [w1, show (SS L i d N).gList = L from rfl, Z8o hlt1, obs]
    unfold Z9f Z9a
    simp only
    rw [w2, obs, obs, show (SS L i d N).gAt = (i : Int) from rfl, show (II L i d N).gAt = (i : Int) from rfl, Zos (by omega)]
    exact ⟨_, _, rfl, rfl, .inl ⟨i + 2, N, _, by omega, by omega, by omega, Zv9 (by omega) (by omega), by show 1 + nT (GTerm.mk 3 (bs []) _ []) ≤ _; rw [Zeb]; show 1 + 0 ≤ _; omega, rfl, rfl⟩⟩
  | false =>
    rw [if_neg Bool.false_ne_true, if_neg Bool.false_ne_true, Zpk, obs]
    simp only
    rw [k1, if_pos (show ((1 : Int) == 1) = true from rfl)]
    -- ahead of a term, or alone
    have two : ∀ g : Bool, g = ((pfx (tkn L i).gText).2 && decide ((pfx (tkn L i).gText).1.gPrio ≤ most)) →
        ∃ rs ri, Z42 kS (Zc kS) (Z2 kS) (Zb kS) (Ze kS) (Zd kS) (Z8 kS) (SS L i d N) (pfx (tkn L i).gText) (tkn L i) g = some rs ∧
          Z26 kI (Z4 kI) (Z1 kI) (Z3 kI) (Z7 kI) (II L i d N, false) (pfx (tkn L i).gText) (II L i d N, tkn L i) (ifx (tkn L i).gText) g = some ri ∧ Same Prod.fst L d i (3020 + 10 * e) rs ri := by
      intro g hg
      unfold Z42 Z26 Z3j
      cases g with
      | true =>
        obtain ⟨rs, ri, r1, r2, r3⟩ := H kS kI (i + 1) d N (pfx (tkn L i).gText).1.gRight hd (by omega) (by omega) (by omega) (by omega)
        rw [if_pos rfl, if_pos rfl]
        simp only
        rw [show (SS L i d N).gAt = (i : Int) from rfl, show (II L i d N).gAt = (i : Int) from rfl, wsuc (by omega)]
        have r1 : Z8 kS (GXr.mk (SS L i d N).gList ((i + 1 : Nat) : Int) (SS L i d N).gBad (SS L i d N).gDeep (SS L i d N).gNames) (pfx (tkn L i).gText).1.gRight = some rs := r1
        have r2 : Z3 kI (GParser.mk (II L i d N).gList ((i + 1 : Nat) : Int) (II L i d N).gNames (II L i d N).gDeep (II L i d N).gBad) (pfx (tkn L i).gText).1.gRight = some ri := r2
        rw [r1, r2, obs, obs, obs]
        rcases r3 with ⟨j, N', x, a1, a2, a3, a4, a5, rfl, rfl⟩ | ⟨b1, b2⟩
        · have a5 : 1 + nT x ≤ j - (i + 1) := a5
          refine ⟨_, _, rfl, rfl, .inl ⟨j, N', _, by omega, a2, a3, Zn7 hz (by simp) (fun y hy => by rw [List.mem_singleton.1 hy]; exact a4), ?_, rfl, rfl⟩⟩
          show 1 + nT (GTerm.mk 4 _ 0 [x]) ≤ _
          rw [Zeb]
          show 1 + (1 + nT x + 0) ≤ _
          omega
        · exact ⟨_, _, rfl, rfl, .inr ⟨b1, b2.le (by omega)⟩⟩
      | false =>
        rw [if_neg Bool.false_ne_true, if_neg Bool.false_ne_true, Zkb, obs]
        simp only
        rw [k1, if_pos (show ((1 : Int) == 1) = true from rfl)]
        have last : ∀ b : Bool, ∃ rs ri, Z41 kS (Zc kS) (Z2 kS) (Zb kS) (Ze kS) (Zd kS) (Z8 kS) (SS L i d N) (tkn L i) b = some rs ∧
            Z25 kI (Z4 kI) (Z1 kI) (Z3 kI) (Z7 kI) (II L i d N, tkn L i) (II L i d N, false) (!b) = some ri ∧ Same Prod.fst L d i (3020 + 10 * e) rs ri := by
          intro b
          unfold Z41 Z25 Z9x Z5l
          cases b with
          | true =>
            rw [if_pos rfl, if_neg (by decide)]
            exact ⟨_, _, rfl, rfl, .inr ⟨rfl, rfl, i, ⟨rfl, rfl⟩, by omega⟩⟩
          | false =>
            rw [if_neg Bool.false_ne_true, if_pos (by decide), obs, obs]
            simp only
            rw [show (SS L i d N).gAt = (i : Int) from rfl, show (II L i d N).gAt = (i : Int) from rfl, wsuc (by omega)]
            exact ⟨_, _, rfl, rfl, .inl ⟨i + 1, N, _, by omega, by omega, by omega, Zpr hz, by show 1 + nT (GTerm.mk 2 _ 0 []) ≤ _; rw [Zeb]; show 1 + 0 ≤ _; omega, rfl, rfl⟩⟩
        cases (pfx (tkn L i).gText).2 with
        | true => rw [if_pos rfl, if_neg (by decide)]; exact last true
        | false => rw [if_neg Bool.false_ne_true, if_pos (by decide)]; exact last _
    cases cp : (pfx (tkn L i).gText).2 with
    | true => rw [if_pos rfl, if_pos rfl]; exact two _ (by rw [cp]; rfl)
    | false => rw [if_neg Bool.false_ne_true, if_neg Bool.false_ne_true]; exact two _ (by rw [cp]; rfl)
theorem Zpj {L : List GSign} (hL : Toks L) {e : Nat} (H : Zh2 L e) {d : Nat} (hd : d + e = 130) {kS kI : Nat} (hkS : 3105 + 10 * e ≤ kS) (hkI : 3105 + 10 * e ≤ kI) {i : Nat} {N : List ByteArray} {most : Int} (hi : i ≤ L.length) (hN : N.length ≤ i)
    (h40 : isM L i (bs [40]) = true) : ∃ rs ri, Z2 kS (SS L i d N) most = some rs ∧ Z1 kI (II L i d N) most = some ri ∧ Same Prod.fst L d i (3020 + 10 * e) rs ri := by
  have hl := hL.len
  obtain ⟨hlt, k4, t40⟩ := Z8h h40
  obtain ⟨kS, rfl⟩ : ∃ q, kS = q + 2 := ⟨kS - 2, by omega⟩
  obtain ⟨kI, rfl⟩ : ∃ q, kI = q + 1 := ⟨kI - 1, by omega⟩
  let r : Bool := ((tkn L (i + 1)).gKind == 1) && isM L (i + 2) (bs [41])
  have hS : Z2 (kS + 2) (SS L i d N) most = (Z20 kS (Zc kS) (Z2 kS) (Zb kS) (Ze kS) (Zd kS) (Z8 kS) r (SS L (i + 1) d N)).bind fun t => some (t.1, t.2, 0) := by
    rw [Z2, sIs0 (by decide), obs, k4, if_neg (show ¬ (SS L i d N, ((4 : Int) == 1)).2 = true from (show ¬ ((4 : Int) == 1) = true by decide))]
    simp only
    rw [Zf3 (by omega) c40, h40, if_pos rfl, obs, if_pos rfl]
    simp only
    rw [Zb, sIs0 (by decide), obs]
    show (Option.bind _ _) = (Z20 _ _ _ _ _ _ _ (((tkn L (i + 1)).gKind == 1) && isM L (i + 2) (bs [41])) _).bind _
    congr 1
    cases (tkn L (i + 1)).gKind == 1 with
    | false => rw [if_neg Bool.false_ne_true]; rfl
    | true =>
      rw [if_pos rfl, Bool.true_and]
      simp only
      rw [show (SS L (i + 1) d N).gAt = ((i + 1 : Nat) : Int) from rfl, wsuc (by omega), show (SS L (i + 1) d N).gList = L from rfl]
      unfold isM
      by_cases c : i + 1 + 1 < L.length
      · rw [if_pos (by rw [decide_eq_true_eq]; omega), Z8o c, obs]
        cases (tkn L (i + 1 + 1)).gKind == 4 with
        | true => rw [if_pos rfl, obs]; rfl
        | false => rw [if_neg Bool.false_ne_true]; rfl
      · rw [if_neg (by rw [decide_eq_true_eq]; omega), show i + 2 = i + 1 + 1 from rfl, Zh3 c]; rfl
  have hI : Z1 (kI + 1) (II L i d N) most = Z1h kI (Z4 kI) (Z1 kI) (Z3 kI) (Z7 kI) (II L i d N, tkn L (i + 1)) (II L i d N, tkn L i) (pfx (tkn L i).gText) (ifx (tkn L i).gText) most r (II L i d N) := by
    rw [Zqi (by omega), k4, if_neg (by decide)]
    unfold Z13
    rw [if_neg Bool.false_ne_true]
    simp only
    rw [Zcz atII (by omega), obs, h40, if_pos rfl]
    show _ = Z1h _ _ _ _ _ _ _ _ _ _ (((tkn L (i + 1)).gKind == 1) && isM L (i + 2) (bs [41])) _
    cases (tkn L (i + 1)).gKind == 1 with
    | false => rw [if_neg Bool.false_ne_true]; rfl
    | true => rw [if_pos rfl, Zws atII (by omega), obs]; rfl
  rw [hS, hI]
  unfold Z20 Z1h
  cases c : r with
  | true =>
    have c' : (((tkn L (i + 1)).gKind == 1) && isM L (i + 2) (bs [41])) = true := c
    rw [Bool.and_eq_true] at c'
    have hlt2 := (Z8h c'.2).1
    have hlt1 : i + 1 < L.length := by omega
    have hz := (hL.tk _ (Zbt hlt1)).2.1
    have w1 : wr.i64 (wr.i64 ((SS L (i + 1) d N).gAt + 2) - 2) = ((i + 1 : Nat) : Int) := by
      rw [show (SS L (i + 1) d N).gAt = ((i + 1 : Nat) : Int) from rfl, Zos (by omega)]; exact Zw9 (by omega)
    rw [if_pos rfl, if_pos rfl, w1, show (SS L (i + 1) d N).gList = L from rfl, Z8o hlt1, obs]
    unfold Z5l Z9x
    simp only
    rw [obs, obs, obs, show (SS L (i + 1) d N).gAt = ((i + 1 : Nat) : Int) from rfl, show (II L i d N).gAt = (i : Int) from rfl, Zos (by omega), Zwb (by omega)]
    exact ⟨_, _, rfl, rfl, .inl ⟨i + 3, N, _, by omega, by omega, by omega, Zpr hz, by show 1 + nT (GTerm.mk 2 _ 0 []) ≤ _; rw [Zeb]; show 1 + 0 ≤ _; omega, rfl, rfl⟩⟩
  | false =>
    obtain ⟨rs, ri, r1, r2, r3⟩ := H kS kI (i + 1) d N 1200 hd (by omega) (by omega) (by omega) (by omega)
    rw [if_neg Bool.false_ne_true, if_neg Bool.false_ne_true, r1, obs]
    simp only
    rw [Zcz atII (by omega), obs, h40, if_pos rfl]
    simp only
    rw [show (II L i d N).gAt = (i : Int) from rfl, wsuc (by omega)]
    have r2 : Z3 kI (GParser.mk (II L i d N).gList ((i + 1 : Nat) : Int) (II L i d N).gNames (II L i d N).gDeep (II L i d N).gBad) 1200 = some ri := r2
    rw [r2, obs]
    rcases r3 with ⟨j, N', x, a1, a2, a3, a4, a5, rfl, rfl⟩ | ⟨b1, b2⟩
    · have a5 : 1 + nT x ≤ j - (i + 1) := a5
      simp only
      rw [Zm8 atII (by omega), obs]
      cases c1 : isM L j (bs [41]) with
      | true =>
        have hlt1 := (Z8h c1).1
        rw [Zi4 (by omega) c41 c1, obs, obs, if_pos rfl]
        exact ⟨_, _, rfl, rfl, .inl ⟨j + 1, N', _, by omega, by omega, by omega, a4, by show 1 + nT x ≤ _; omega, rfl, rfl⟩⟩
      | false =>
        rw [Zi5 (by omega) c41 c1, obs, obs, if_neg Bool.false_ne_true]
        exact ⟨_, _, rfl, rfl, .inr ⟨rfl, rfl, j + 1, ⟨rfl, rfl⟩, by omega⟩⟩
    · obtain ⟨r', w1, w2⟩ := Zdd (k := kS) (t := bs [41]) b1
      obtain ⟨w', q1, q2⟩ := b2.mark (k := kI) (t := bs [41]) (by omega)
      rw [w1, obs, obs, q1, obs]
      exact ⟨_, _, rfl, rfl, .inr ⟨w2, q2.le (by omega)⟩⟩
theorem Zvf : sEq (bs [91]) (bs [40]) = false := by kernel_rfl
theorem Zrw {L : List GSign} (hL : Toks L) {e : Nat} (he : e ≤ 130) (H : Zh2 L e) {d : Nat} (hd : d + e = 130) {kS kI : Nat} (hkS : 3105 + 10 * e ≤ kS) (hkI : 3105 + 10 * e ≤ kI) {i : Nat} {N : List ByteArray} {most : Int} (hi : i ≤ L.length) (hN : N.length ≤ i)
    (h91 : isM L i (bs [91]) = true) : ∃ rs ri, Z2 kS (SS L i d N) most = some rs ∧ Z1 kI (II L i d N) most = some ri ∧ Same Prod.fst L d i (3020 + 10 * e) rs ri := by
  have hl := hL.len
  obtain ⟨hlt, k4, t91⟩ := Z8h h91
  have h40 := Zfv h91 Zvf
  obtain ⟨kS, rfl⟩ : ∃ q, kS = q + 2 := ⟨kS - 2, by omega⟩
  obtain ⟨kI, rfl⟩ : ∃ q, kI = q + 3 := ⟨kI - 3, by omega⟩
  have hS : Z2 (kS + 2) (SS L i d N) most = (Ze (kS + 1) (SS L (i + 1) d N)).bind fun t => some (t.1, t.2, 0) := by
    rw [Z2, sIs0 (by decide), obs, k4, if_neg (show ¬ (SS L i d N, ((4 : Int) == 1)).2 = true from (show ¬ ((4 : Int) == 1) = true by decide))]
    simp only
    rw [Zf3 (by omega) c40, h40, if_neg Bool.false_ne_true, obs, if_neg (show ¬ (SS L i d N, false).2 = true from Bool.false_ne_true)]
    simp only
    rw [Zf3 (by omega) c91, h91, if_pos rfl, obs, if_pos rfl]
  have hI : Z1 (kI + 3) (II L i d N) most = (Z4 (kI + 2) (II L i d N)).bind fun b => some (b.1, b.2, 0) := by
    rw [Zqi (by omega), k4, if_neg (by decide)]
    unfold Z13
    rw [if_neg Bool.false_ne_true]
    simp only
    rw [Zcz atII (by omega), obs, h40, if_neg (show ¬ (II L i d N, false).2 = true from Bool.false_ne_true)]
    unfold Z1h
    rw [if_neg Bool.false_ne_true]
    simp only
    rw [Zcz atII (by omega), obs, h40, if_neg (show ¬ (II L i d N, false).2 = true from Bool.false_ne_true)]
    simp only
    rw [Zcz atII (by omega), obs, h91, if_pos rfl]
  rw [hS, hI, Ze, Z4, Zf3 (by omega) c93, Zm8 atII (by omega), obs, h91, if_pos rfl]
  try simp only
  rw [show (GParser.mk L ((i + 1 : Nat) : Int) (II L i d N).gNames (II L i d N).gDeep (II L i d N).gBad) = II L (i + 1) d N from rfl]
  rw [obs, Zcz atII (by omega), obs]
  unfold Z5l Z9x
  cases c : isM L (i + 1) (bs [93]) with
  | true =>
    have hlt1 := (Z8h c).1
    rw [if_pos rfl, if_pos rfl, if_pos rfl, obs, obs, obs, obs]
    simp only
    rw [show (II L (i + 1) d N).gAt = ((i + 1 : Nat) : Int) from rfl, wsuc (by omega)]
    exact ⟨_, _, rfl, rfl, .inl ⟨i + 1 + 1, N, _, by omega, by omega, by omega, Zsq, by show 1 + nT nilT ≤ _; rw [Zsr]; omega, rfl, rfl⟩⟩
  | false =>
    obtain ⟨rs, ri, r1, r2, r3⟩ := H kS kI (i + 1) d N 999 hd (by omega) (by omega) (by omega) (by omega)
    obtain ⟨vs, cs, ss, vi, wi, rI, s1, s2, s3, s4, s5⟩ := rowS hL he H hd (kS := kS) (kI := kI) (kJ := kI + 1) (by omega) (by omega) (by omega) (A := Zc kS) (B := Z2 kS) (C := Zb kS) (D' := Ze kS) (F := Zd kS) (A' := Z4 kI) (B' := Z1 kI) (C' := Z7 kI) (A2 := Z4 (kI + 1)) (B2 := Z1 (kI + 1)) (C2 := Z7 (kI + 1)) (i0 := i) (L.length - (i + 1)) (i + 1) N [] kS kI rs ri (Nat.le_refl _) (by omega) (by simp) (fun x hx => by cases hx) (by show 0 + 0 ≤ _; omega) r1 r3 (by omega) (by omega) (by omega)
    have s3 : Zv kI (Z4 kI) (Z1 kI) (Z3 kI) (Z7 kI) kI [ri.2] ri.1 = some (.done (vi, wi)) := s3
    have s1 : Z1q kS (Zc kS) (Z2 kS) (Zb kS) (Ze kS) (Zd kS) (Z8 kS) (GTerm.mk 2 (bs [91, 93]) 0 []) kS [] (SS L (i + 1) d N) = some (.done (vs, cs, ss)) := s1
    have tI : Z7 (kI + 1) (II L (i + 1) d N) = some (wi, vi) := by
      rw [Z7, r2, obs, s3]; rfl
    rw [if_neg Bool.false_ne_true, if_neg Bool.false_ne_true, if_neg (show ¬ (SS L (i + 1) d N, false).2 = true from Bool.false_ne_true), obs, s1]
    simp only [obs]
    rw [tI, Zrk (by omega) (by omega)]
    simp only [obs]
    have s4 : (Zy (kI + 1) wi 0 (bs [124])).bind (fun y => if y.2 = true then (Z3 (kI + 1) (GParser.mk y.1.gList (wr.i64 (y.1.gAt + 1)) y.1.gNames y.1.gDeep y.1.gBad) 999).bind fun b => Z16 (kI + 1) (Z4 (kI + 1)) (Z1 (kI + 1)) (Z3 (kI + 1)) (Z7 (kI + 1)) (wi, vi) b.2 b.1
      else Z16 (kI + 1) (Z4 (kI + 1)) (Z1 (kI + 1)) (Z3 (kI + 1)) (Z7 (kI + 1)) (wi, vi) (GTerm.mk 2 (bs [91, 93]) 0 []) y.1) = some rI := s4
    rw [s4, obs]
    rcases s5 with ⟨j, N', a1, a2, a3, a4, a5, rfl, rfl⟩ | ⟨b1, b2⟩
    · exact ⟨_, _, rfl, rfl, .inl ⟨j, N', _, a1, a2, a3, a4, a5, rfl, rfl⟩⟩
    · exact ⟨_, _, rfl, rfl, .inr ⟨b1, b2.le (by omega)⟩⟩
theorem Zrx {L : List GSign} (hL : Toks L) {e : Nat} {d : Nat} (hd : d + e = 130) {kS kI : Nat} (hkS : 3105 + 10 * e ≤ kS) (hkI : 3105 + 10 * e ≤ kI) {i : Nat} {N : List ByteArray} {most : Int} (hi : i ≤ L.length) (hN : N.length ≤ i)
    (k1 : ((tkn L i).gKind == 1) = false) (h40 : isM L i (bs [40]) = false) (h91 : isM L i (bs [91]) = false) : ∃ rs ri, Z2 kS (SS L i d N) most = some rs ∧ Z1 kI (II L i d N) most = some ri ∧ Same Prod.fst L d i (3020 + 10 * e) rs ri := by
  have hl := hL.len
  obtain ⟨kS, rfl⟩ : ∃ q, kS = q + 1 := ⟨kS - 1, by omega⟩
  obtain ⟨kI, rfl⟩ : ∃ q, kI = q + 1 := ⟨kI - 1, by omega⟩
  have hI : Z1 (kI + 1) (II L i d N) most = Z13 kI (Z4 kI) (Z1 kI) (Z3 kI) (Z7 kI) (II L i d N, tkn L (i + 1)) (II L i d N, tkn L i) (pfx (tkn L i).gText) (ifx (tkn L i).gText) most false := by
    rw [Zqi (by omega), k1, if_neg Bool.false_ne_true]
  have w1 : wr.i64 (wr.i64 ((SS L i d N).gAt + 1) - 1) = (i : Int) := by
    rw [show (SS L i d N).gAt = (i : Int) from rfl, wsuc (by omega)]; exact Zop (by omega)
  rw [hI, iJ2f (by omega) h40 h91, Z2, sIs0 (by decide), obs, k1, if_neg (show ¬ (SS L i d N, false).2 = true from Bool.false_ne_true)]
  simp only
  rw [Zf3 (by omega) c40, h40, if_neg Bool.false_ne_true, obs, if_neg (show ¬ (SS L i d N, false).2 = true from Bool.false_ne_true)]
  simp only
  rw [Zf3 (by omega) c91, h91, if_neg Bool.false_ne_true, obs, if_neg (show ¬ (SS L i d N, false).2 = true from Bool.false_ne_true)]
  simp only
  rw [sIs0 (by decide), obs]
  cases k3 : (tkn L i).gKind == 3 with
  | true =>
    have hlt : i < L.length := tkn_lt' (by rw [beq_iff_eq.1 k3]; decide)
    have hz := (hL.tk _ (Zbt hlt)).2.2
    rw [if_pos rfl, if_pos rfl]
    simp only
    rw [w1, show (SS L i d N).gList = L from rfl, Z8o hlt, obs]
    unfold Z9f
    rw [obs, show (SS L i d N).gAt = (i : Int) from rfl, wsuc (by omega)]
    exact ⟨_, _, rfl, rfl, .inl ⟨i + 1, N, _, by omega, by omega, by omega, Zv9 (by omega) (by omega), by show 1 + nT (GTerm.mk 3 (bs []) _ []) ≤ _; rw [Zeb]; show 1 + 0 ≤ _; omega, rfl, rfl⟩⟩
  | false =>
    rw [if_neg Bool.false_ne_true, if_neg (show ¬ (SS L i d N, false).2 = true from Bool.false_ne_true)]
    simp only
    rw [sIs0 (by decide), obs]
    cases k2 : (tkn L i).gKind == 2 with
    | true =>
      have hlt : i < L.length := tkn_lt' (by rw [beq_iff_eq.1 k2]; decide)
      obtain ⟨N', t, v1, v2, v3, v4, v5⟩ := varS (kS := kS) (kI := kI) (by omega) (by omega) (L := L) (i := i + 1) (d := d) (N := N) (s := (tkn L i).gText) (by omega)
      rw [if_pos rfl, if_pos rfl]
      simp only
      rw [w1, show (SS L i d N).gList = L from rfl, Z8o hlt, obs, show (SS L i d N).gAt = (i : Int) from rfl, wsuc (by omega)]
      have v1 : Z2w kS (GXr.mk L ((i + 1 : Nat) : Int) (SS L i d N).gBad (SS L i d N).gDeep (SS L i d N).gNames) (tkn L i).gText = some (SS L (i + 1) d N', t) := v1
      rw [v1, v2, obs, obs]
      exact ⟨_, _, rfl, rfl, .inl ⟨i + 1, N', _, by omega, by omega, by omega, v4, by show 1 + nT t ≤ _; omega, rfl, rfl⟩⟩
    | false =>
      rw [if_neg Bool.false_ne_true, if_neg (show ¬ (SS L i d N, false).2 = true from Bool.false_ne_true), Bool.false_and]
      unfold Z1g
      rw [if_neg Bool.false_ne_true]
      simp only
      rw [k1, if_neg Bool.false_ne_true]
      unfold Z26
      rw [if_neg Bool.false_ne_true]
      simp only
      rw [k1, if_neg Bool.false_ne_true]
      unfold Z25
      rw [if_neg Bool.false_ne_true]
      exact ⟨_, _, rfl, rfl, .inr ⟨rfl, rfl, i, ⟨rfl, rfl⟩, by omega⟩⟩
theorem Zwj {L : List GSign} (hL : Toks L) {e : Nat} (he : e ≤ 130) (H : Zh2 L e) {d : Nat} (hd : d + e = 130) {kS kI : Nat} (hkS : 3105 + 10 * e ≤ kS) (hkI : 3105 + 10 * e ≤ kI) {i : Nat} {N : List ByteArray} {most : Int} (hi : i ≤ L.length) (hN : N.length ≤ i) :
    ∃ rs ri, Z2 kS (SS L i d N) most = some rs ∧ Z1 kI (II L i d N) most = some ri ∧ Same Prod.fst L d i (3020 + 10 * e) rs ri := by
  cases k1 : (tkn L i).gKind == 1 with
  | true =>
    cases hn : (tkn L i).gNear with
    | true => exact Zrv hL H hd hkS hkI hi hN (beq_iff_eq.1 k1) hn
    | false => exact Zry hL H hd hkS hkI hi hN (beq_iff_eq.1 k1) hn
  | false =>
    cases h40 : isM L i (bs [40]) with
    | true => exact Zpj hL H hd hkS hkI hi hN h40
    | false =>
      cases h91 : isM L i (bs [91]) with
      | true => exact Zrw hL he H hd hkS hkI hi hN h91
      | false => exact Zrx hL hd hkS hkI hi hN k1 h40 h91
theorem Zun {L : List GSign} (hL : Toks L) : ∀ e : Nat, e ≤ 130 → Zh2 L e
  | 0, _ => by
    intro kS kI i d N most h1 h2 h3 h4 h5
    have hl := hL.len
    obtain ⟨kS, rfl⟩ : ∃ q, kS = q + 1 := ⟨kS - 1, by omega⟩
    obtain ⟨kI, rfl⟩ : ∃ q, kI = q + 1 := ⟨kI - 1, by omega⟩
    have hd : d = 130 := by omega
    subst hd
    rw [Z8, Z3, if_neg (show ¬ (SS L i 130 N).gBad = true from Bool.false_ne_true), if_pos (show ((II L i 130 N).gDeep == 130) = true from rfl)]
    unfold Z40 Z3l
    rw [show decide (wr.i64 ((SS L i 130 N).gDeep + 1) > 130) = true from by rw [show (SS L i 130 N).gDeep = ((130 : Nat) : Int) from rfl, wsuc (by omega)]; decide, if_pos rfl, if_pos rfl]
    exact ⟨_, _, rfl, rfl, .inr ⟨rfl, rfl, i, ⟨rfl, rfl⟩, by omega⟩⟩
  | e + 1, he => by
    intro kS kI i d N most h1 h2 h3 h4 h5
    have hl := hL.len
    have H := Zun hL e (by omega)
    obtain ⟨kS, rfl⟩ : ∃ q, kS = q + 1 := ⟨kS - 1, by omega⟩
    obtain ⟨kI, rfl⟩ : ∃ q, kI = q + 1 := ⟨kI - 1, by omega⟩
    obtain ⟨rs, ri, r1, r2, r3⟩ := Zwj hL (by omega) H (d := d + 1) (by omega) (kS := kS) (kI := kI) (by omega) (by omega) (most := most) h4 h5
    have w1 : wr.i64 ((d : Int) + 1) = ((d + 1 : Nat) : Int) := wsuc (by omega)
    have w2 : wr.i64 (((d + 1 : Nat) : Int) - 1) = (d : Int) := Zop (by omega)
    have hS : Z8 (kS + 1) (SS L i d N) most = (Z1m kS (Zc kS) (Z2 kS) (Zb kS) (Ze kS) (Zd kS) (Z8 kS) most kS rs.2.2 rs.2.1 rs.1).bind fun o => match o with | .ret r => some r | .done (c, j) => some (GXr.mk j.gList j.gAt j.gBad (wr.i64 (j.gDeep - 1)) j.gNames, c) := by
      rw [Z8, if_neg (show ¬ (SS L i d N).gBad = true from Bool.false_ne_true)]
      unfold Z40
      rw [show (SS L i d N).gDeep = (d : Int) from rfl, w1, if_neg (by rw [decide_eq_true_eq]; omega)]
      have r1 : Z2 kS (GXr.mk (SS L i d N).gList (SS L i d N).gAt (SS L i d N).gBad ((d + 1 : Nat) : Int) (SS L i d N).gNames) most = some rs := r1
      rw [r1, obs]
      rfl
    have hI : Z3 (kI + 1) (II L i d N) most = (Zx kI (Z4 kI) (Z1 kI) (Z3 kI) (Z7 kI) most kI ri.2.2 ri.2.1 ri.1).bind fun o => match o with | .ret r => some r | .done (c, w) => some (GParser.mk w.gList w.gAt w.gNames (wr.i64 (w.gDeep - 1)) w.gBad, c) := by
      rw [Z3, if_neg (show ¬ ((II L i d N).gDeep == 130) = true by rw [beq_iff_eq, show (II L i d N).gDeep = (d : Int) from rfl]; omega), show (II L i d N).gBad = false from rfl]
      unfold Z3l
      rw [if_neg Bool.false_ne_true, show (II L i d N).gDeep = (d : Int) from rfl, w1]
      have r2 : Z1 kI (GParser.mk (II L i d N).gList (II L i d N).gAt (II L i d N).gNames ((d + 1 : Nat) : Int) (II L i d N).gBad) most = some ri := r2
      rw [r2, obs]
      rfl
    rw [hS, hI]
    rcases r3 with ⟨j, N', x, a1, a2, a3, a4, a5, rfl, rfl⟩ | ⟨b1, b2⟩
    · obtain ⟨ts, ss, ti, si, s1, s2, s3⟩ := Zwr hL H (d := d) (by omega) (kS := kS) (kI := kI) (by omega) (by omega) (A := Zc kS) (B := Z2 kS) (C := Zb kS) (D' := Ze kS) (F := Zd kS) (A' := Z4 kI) (B' := Z1 kI) (C' := Z7 kI) (most := most) (i0 := i) (L.length - j) j N' x.2 x.1 kS kI (Nat.le_refl _) a1 a2 a3 a4 a5 (by omega) (by omega)
      simp only
      rw [s1, s2, obs, obs]
      simp only
      rcases s3 with ⟨j2, N2, y, c1, c2, c3, c4, c5, q1, q2⟩ | ⟨b1, b2⟩
      · cases q1
        cases q2
        rw [show (SS L j2 (d + 1) N2).gDeep = ((d + 1 : Nat) : Int) from rfl, show (II L j2 (d + 1) N2).gDeep = ((d + 1 : Nat) : Int) from rfl, w2]
        exact ⟨_, _, rfl, rfl, .inl ⟨j2, N2, _, c1, c2, c3, c4, c5, rfl, rfl⟩⟩
      · obtain ⟨b3, jj, b4, b5⟩ := b2
        exact ⟨_, _, rfl, rfl, .inr ⟨b1, b3, jj, b4, by omega⟩⟩
    · obtain ⟨kS, rfl⟩ : ∃ q, kS = q + 1 := ⟨kS - 1, by omega⟩
      obtain ⟨kI, rfl⟩ : ∃ q, kI = q + 1 := ⟨kI - 1, by omega⟩
      rw [Z1m, Zx, if_neg (by rw [b1]; decide), if_neg (by rw [b2.1]; decide), obs, obs]
      obtain ⟨b3, jj, b4, b5⟩ := b2
      exact ⟨_, _, rfl, rfl, .inr ⟨b1, b3, jj, b4, by omega⟩⟩
theorem Zk8 (k : Nat) {l : List Int} (x : Int) (hl : l.length ≤ maxLen) : ∀ (m j : Nat), j ≤ l.length → l.length - j < m → Z7j k l x m (j : Int) = some (if x ∈ l.drop j then .ret true else .done ())
  | 0, j, h1, h2 => by omega
  | m + 1, j, h1, h2 => by
    unfold Z7j
    by_cases hlt : j < l.length
    · rw [if_pos (by simpa using hlt), Z7r hlt, List.drop_eq_getElem_cons hlt]
      simp only [Option.bind_some]
      by_cases e : l[j] = x
      · rw [if_pos (by simpa using e), if_pos (by simp [e])]
      · rw [if_neg (by simpa using e), Z7s hlt hl, Zk8 k x hl m (j + 1) (by omega) (by omega)]
        have : (x ∈ l[j] :: l.drop (j + 1)) ↔ x ∈ l.drop (j + 1) := by
          rw [List.mem_cons]; exact ⟨fun h => h.resolve_left (fun h => e h.symm), .inr⟩
        simp only [this]
    · rw [if_neg (by simpa using hlt), List.drop_of_length_le (by omega)]; simp
theorem Zvj {k : Nat} {l : List Int} (x : Int) (hl : l.length ≤ maxLen) (hk : maxLen < k) : Zaq k l x = some (decide (x ∈ l)) := by
  unfold Zaq
  have e := Zk8 k x hl k 0 (by omega) (by omega)
  rw [show ((0 : Nat) : Int) = 0 from rfl, List.drop_zero] at e
  rw [e]
  by_cases h : x ∈ l <;> simp [h]
def uniq : List Int → List Int → List Int
  | [], o => o
  | x :: l, o => uniq l (if x ∈ o then o else o ++ [x])
theorem Zce : ∀ (l o : List Int), (uniq l o).length ≤ o.length + l.length
  | [], o => by simp [uniq]
  | x :: l, o => by
    have h := Zce l (if x ∈ o then o else o ++ [x])
    rw [uniq]
    split at h
    · rename_i c; rw [if_pos c]; simp only [List.length_cons]; omega
    · rename_i c; rw [if_neg c]; simp only [List.length_append, List.length_cons, List.length_nil] at h ⊢; omega
mutual
def vs : GTerm → List Int
  | .mk a _ c l => (if a = 1 then [c] else []) ++ vss l
def vss : List GTerm → List Int
  | [] => []
  | x :: l => vs x ++ vss l
end
theorem Zrc (x : GTerm) : vs x = (if x.gKind = 1 then [x.gNum] else []) ++ vss x.gKids := by cases x; rw [vs]; rfl
mutual
theorem Zjf : ∀ x : GTerm, (vs x).length ≤ 1 + nT x
  | .mk a b c l => by
    have h := Zou l
    rw [vs, nT]
    split <;> simp <;> omega
theorem Zou : ∀ l : List GTerm, (vss l).length ≤ nTs l
  | [] => by simp [vss, nTs]
  | x :: l => by
    have h1 := Zjf x
    have h2 := Zou l
    rw [vss, nTs]
    simp only [List.length_append]; omega
end
theorem Zmr {l : List GTerm} {j : Nat} (h : j < l.length) : vss (l.drop j) = vs l[j] ++ vss (l.drop (j + 1)) := by
  rw [List.drop_eq_getElem_cons h, vss]
theorem Zi2 : ∀ (a b o : List Int), uniq (a ++ b) o = uniq b (uniq a o)
  | [], b, o => by simp [uniq]
  | x :: a, b, o => by simp only [List.cons_append, uniq]; exact Zi2 a b _
theorem Zcs : ∀ (l o : List Int) (x : Int), x ∈ uniq l o ↔ x ∈ l ∨ x ∈ o
  | [], o, x => by simp [uniq]
  | y :: l, o, x => by
    rw [uniq, Zcs l]
    split
    · rename_i c
      constructor
      · rintro (h | h)
        · exact .inl (List.mem_cons_of_mem _ h)
        · exact .inr h
      · rintro (h | h)
        · rcases List.mem_cons.1 h with rfl | h
          · exact .inr c
          · exact .inl h
        · exact .inr h
    · simp only [List.mem_append, List.mem_cons, List.not_mem_nil, or_false]
      constructor
      · rintro (h | h | h)
        · exact .inl (.inr h)
        · exact .inr h
        · exact .inl (.inl h)
      · rintro ((h | h) | h)
        · exact .inr (.inr h)
        · exact .inl h
        · exact .inr (.inl h)

theorem Zhi {k : Nat} {x : GTerm} {f : GTerm → List Int → Option (List Int)} (hx : x.gKids.length ≤ 1048576)
    (hf : ∀ y ∈ x.gKids, ∀ s, s.length + 1 + nT y ≤ 8388608 → f y s = some (uniq (vs y) s)) :
    ∀ (m j : Nat) (s : List Int), j ≤ x.gKids.length → x.gKids.length - j < m → s.length + nsum nT (x.gKids.drop j) ≤ 8388608 →
      Z6j k f x m s (j : Int) = some (.done (uniq (vss (x.gKids.drop j)) s))
  | 0, j, s, h1, h2, h3 => by omega
  | m + 1, j, s, h1, h2, h3 => by
    have hm : x.gKids.length ≤ maxLen := by rw [Z15]; omega
    unfold Z6j
    by_cases hlt : j < x.gKids.length
    · rw [Zfj hlt] at h3
      have hl := Zce (vs x.gKids[j]) s
      have hl2 := Zjf x.gKids[j]
      rw [if_pos (by simpa using hlt), Z7r hlt]
      simp only [Option.bind_some]
      rw [hf _ (List.getElem_mem hlt) s (by omega)]
      simp only [Option.bind_some]
      rw [Z7s hlt hm, Zhi hx hf m (j + 1) _ (by omega) (by omega) (by omega), Zmr hlt, Zi2]
    · rw [if_neg (by simpa using hlt), List.drop_of_length_le (by omega), vss, uniq]
theorem Zm2 : ∀ (k : Nat) (x : GTerm), maxLen + 2 * nT x + 2 < k → nT x ≤ 1048576 → ∀ s, s.length + 1 + nT x ≤ 8388608 → Z39 k x s = some (uniq (vs x) s)
  | 0, x, h => by omega
  | k + 1, x, hw => by
    intro hn s h2
    have hk := Z6p x
    have hlen := Z81 nT x.gKids
    have hm : maxLen = 9223372036854775807 := Z15
    have e : ∀ s : List Int, s.length + nT x ≤ 8388608 → Z6l k (Z39 k) x s = some (uniq (vss x.gKids) s) := by
      intro s hs
      have e := Zhi (k := k) (f := Z39 k) (x := x) (by omega) (fun y hy s g2 => by have := Z4t (n := nT) hy; exact Zm2 k y (by omega) (by omega) s g2) k 0 s (by omega) (by omega) (by rw [List.drop_zero]; omega)
      rw [show ((0 : Nat) : Int) = 0 from rfl, List.drop_zero] at e
      unfold Z6l
      rw [e]; rfl
    unfold Z39
    rw [Zrc]
    by_cases c1 : x.gKind = 1
    · rw [if_pos (by simpa using c1), if_pos c1, Zvj _ (by omega) (by omega)]
      simp only [Option.bind_some]
      unfold Z6k
      rw [List.singleton_append, uniq]
      by_cases hs : x.gNum ∈ s
      · rw [if_neg (by simp [hs]), if_pos hs, e s (by omega)]
      · rw [if_pos (by simp [hs]), if_neg hs, if_pos (by simp; omega), e _ (by simp; omega)]
    · rw [if_neg (by simpa using c1), if_neg c1]
      unfold Z6k
      rw [if_neg (by simp), List.nil_append, e s (by omega)]
theorem Zjd {n : Nat} (h : n ≤ 1000000) : wr.i64 ((n : Int) + 1) = ((n + 1 : Nat) : Int) := by rw [Z2k (by omega) (by omega)]; omega
theorem Zni {k : Nat} {l : List Int} {x : Int} (hl : l.length ≤ 100000) : ∀ (m j : Nat), j ≤ l.length → l.length - j < m → Z8d k l x m (j : Int) = some (if x ∈ l.drop j then .ret ((j + (l.drop j).idxOf x : Nat) : Int) else .done ())
  | 0, j, h1, h2 => by omega
  | m + 1, j, h1, h2 => by
    unfold Z8d
    by_cases hlt : j < l.length
    · rw [if_pos (by simpa using hlt), Z7r hlt, List.drop_eq_getElem_cons hlt, obs]
      by_cases e : l[j] = x
      · rw [if_pos (by simpa using e), if_pos (by simp [e]), e, List.idxOf_cons_self]; rfl
      · rw [if_neg (by simpa using e), Z2k (by omega) (by omega), show ((j : Int) + 1) = ((j + 1 : Nat) : Int) by omega, Zni hl m (j + 1) (by omega) (by omega)]
        have hm : (x ∈ l[j] :: l.drop (j + 1)) ↔ x ∈ l.drop (j + 1) := by
          rw [List.mem_cons]; exact ⟨fun h => h.resolve_left (fun h => e h.symm), .inr⟩
        by_cases c : x ∈ l.drop (j + 1)
        · have e' : (l[j] == x) = false := by simpa using e
          rw [if_pos c, if_pos (hm.2 c), List.idxOf_cons, e', cond_false]
          congr 3
          omega
        · rw [if_neg c, if_neg (fun h => c (hm.1 h))]
    · rw [if_neg (by simpa using hlt), List.drop_of_length_le (by omega)]; simp
theorem Zvk {k : Nat} {l : List Int} {x : Int} (hl : l.length ≤ 100000) (hk : 100000 < k) (hx : x ∈ l) : Z8s k l x = some ((l.idxOf x : Nat) : Int) := by
  unfold Z8s
  have e := Zni (k := k) (x := x) hl k 0 (by omega) (by omega)
  rw [show ((0 : Nat) : Int) = 0 from rfl, List.drop_zero, if_pos hx, Nat.zero_add] at e
  rw [e]; rfl
theorem Zm1 {F : GTerm → GTerm → Option Bool} {Lf : Nat → Int → Option (Out Bool Unit)} {l l' : List GTerm} {P : GTerm → GTerm → Prop} {PL : List GTerm → List GTerm → Prop} (hnil : PL [] []) (hcons : ∀ x y l m, PL (x :: l) (y :: m) ↔ P x y ∧ PL l m)
    (hstep : ∀ (m : Nat) (j : Int), Lf (m + 1) j = if (decide (j < (l.length : Int))) = true then (at' l j).bind fun x => (at' l' j).bind fun y => (F x y).bind fun e => if (!e) = true then some (.ret false) else Lf m (wr.i64 (j + 1)) else some (.done ()))
    (hl : l.length = l'.length) (hm : l.length ≤ 100000) (hF : ∀ (j : Nat) (h1 : j < l.length) (h2 : j < l'.length), ∃ r, F l[j] l'[j] = some r ∧ (r = true ↔ P l[j] l'[j])) :
    ∀ (m j : Nat), j ≤ l.length → l.length - j < m → (Lf m (j : Int) = some (.done ()) ∧ PL (l.drop j) (l'.drop j)) ∨ (Lf m (j : Int) = some (.ret false) ∧ ¬ PL (l.drop j) (l'.drop j))
  | 0, j, h1, h2 => by omega
  | m + 1, j, h1, h2 => by
    rw [hstep]
    by_cases c : j < l.length
    · have c' : j < l'.length := by omega
      obtain ⟨r, e1, e2⟩ := hF j c c'
      rw [if_pos (by simpa using c), Z7r c, obs, Z7r c', obs, e1, obs, List.drop_eq_getElem_cons c, List.drop_eq_getElem_cons c', hcons]
      cases r with
      | false =>
        rw [if_pos (by decide)]
        exact .inr ⟨rfl, fun h => by have := e2.2 h.1; cases this⟩
      | true =>
        rw [if_neg (by decide), Zjd (by omega)]
        rcases Zm1 hnil hcons hstep hl hm hF m (j + 1) (by omega) (by omega) with ⟨a1, a2⟩ | ⟨a1, a2⟩
        · exact .inl ⟨a1, e2.1 rfl, a2⟩
        · exact .inr ⟨a1, fun h => a2 h.2⟩
    · rw [if_neg (by simpa using c), List.drop_of_length_le (by omega), List.drop_of_length_le (by omega)]
      exact .inl ⟨rfl, hnil⟩
theorem Zuv : ∀ (k : Nat) (a b : GTerm), maxLen + 2 * nT a + 2 < k → nT a ≤ 100000 → ∃ r, Z49 k a b = some r ∧ (r = true ↔ a = b)
  | 0, a, b, hw, hn => by omega
  | k + 1, a, b, hw, hn => by
    have hM := Z15
    have hk := Z6p a
    have hlen := Z81 nT a.gKids
    cases a with
    | mk x1 x2 x3 x4 =>
    cases b with
    | mk y1 y2 y3 y4 =>
    rw [Z49, Za2, Za2, Zbc, Zbc, Zdk, Zdk, Z79, Z79]
    rw [Z79] at hk hlen
    have no : ∀ {p : Prop}, ¬ p → ((false = true) ↔ p) := fun h => ⟨fun e => (by cases e), fun e => absurd e h⟩
    by_cases c1 : x1 = y1
    · rw [if_pos (by simpa using c1)]
      by_cases c2 : x2 = y2
      · rw [if_pos (Z91.2 c2)]
        by_cases c3 : x3 = y3
        · rw [if_pos (by simpa using c3)]
          subst c1; subst c2; subst c3
          unfold Zh
          by_cases c4 : x4.length = y4.length
          · rw [if_neg (by simp [c4])]
            have h := Zm1 (F := Z49 k) (Lf := Zf k (Z49 k) x4 y4) (l := x4) (l' := y4) (P := Eq) (PL := Eq) rfl (fun x y l m => by rw [List.cons.injEq]) (fun m j => rfl) c4 (by omega)
              (fun j h1 h2 => Zuv k _ _ (by have := Z4t (n := nT) (List.getElem_mem h1); omega) (by have := Z4t (n := nT) (List.getElem_mem h1); omega)) k 0 (by omega) (by omega)
            rw [show ((0 : Nat) : Int) = 0 from rfl, List.drop_zero, List.drop_zero] at h
            rcases h with ⟨a1, a2⟩ | ⟨a1, a2⟩
            · rw [a1, obs]; exact ⟨true, rfl, by simp [a2]⟩
            · rw [a1, obs]; exact ⟨false, rfl, no (fun e => a2 (by injection e))⟩
          · rw [if_pos (by simp; omega)]
            exact ⟨false, rfl, no (fun e => c4 (by injection e with _ _ _ e; rw [e]))⟩
        · rw [if_neg (by simpa using c3)]
          exact ⟨false, rfl, no (fun e => c3 (by injection e))⟩
      · rw [if_neg (by rw [Z91]; exact c2)]
        exact ⟨false, rfl, no (fun e => c2 (by injection e))⟩
    · rw [if_neg (by simpa using c1)]
      exact ⟨false, rfl, no (fun e => c1 (by injection e))⟩
mutual
def rnm (f : Int → Int) : GTerm → GTerm
  | .mk a n v l => .mk a n (if a = 1 then f v else v) (rnms f l)
def rnms (f : Int → Int) : List GTerm → List GTerm
  | [] => []
  | x :: l => rnm f x :: rnms f l
end
theorem Zpb (f : Int → Int) : ∀ l, rnms f l = l.map (rnm f)
  | [] => by rw [rnms]; rfl
  | x :: l => by rw [rnms, Zpb f l]; rfl
theorem renL {k : Nat} {M : List (Int × Int)} {F : GTerm → List (Int × Int) → Option GTerm} {a : GTerm} (hm : a.gKids.length ≤ 100000) (hF : ∀ y ∈ a.gKids, F y M = some (rnm (mget M) y)) {x1 : Int} {x2 : ByteArray} {x3 : Int} :
    ∀ (m j : Nat), j ≤ a.gKids.length → a.gKids.length - j < m → Z1n k F a M m (j : Int) (GTerm.mk x1 x2 x3 ((a.gKids.take j).map (rnm (mget M)))) = some (.done (GTerm.mk x1 x2 x3 (a.gKids.map (rnm (mget M)))))
  | 0, j, h1, h2 => by omega
  | m + 1, j, h1, h2 => by
    rw [Z1n]
    by_cases c : j < a.gKids.length
    · rw [if_pos (by simpa using c), Z7r c, obs, hF _ (List.getElem_mem c), obs, Z79, if_pos (by rw [List.length_map, List.length_take, List.length_singleton]; omega), Zjd (by omega), Za2, Zbc, Zdk]
      have e : (a.gKids.take j).map (rnm (mget M)) ++ [rnm (mget M) a.gKids[j]] = (a.gKids.take (j + 1)).map (rnm (mget M)) := by
        rw [← List.take_append_getElem c, List.map_append]; rfl
      rw [e]
      exact renL hm hF m (j + 1) (by omega) (by omega)
    · rw [if_neg (by simpa using c), List.take_of_length_le (by omega)]
theorem renI {M : List (Int × Int)} : ∀ (k : Nat) (a : GTerm), maxLen + 2 * nT a + 2 < k → nT a ≤ 100000 → Zk k a M = some (rnm (mget M) a)
  | 0, a, hw, hn => by omega
  | k + 1, a, hw, hn => by
    have hM := Z15
    have hk := Z6p a
    have hlen := Z81 nT a.gKids
    have hL : ∀ x1 x2 x3, Z1o k (Zk k) a M (GTerm.mk x1 x2 x3 []) = some (GTerm.mk x1 x2 x3 (a.gKids.map (rnm (mget M)))) := fun x1 x2 x3 => by
      have h := renL (k := k) (M := M) (F := Zk k) (a := a) (x1 := x1) (x2 := x2) (x3 := x3) (by omega) (fun y hy => renI k y (by have := Z4t (n := nT) hy; omega) (by have := Z4t (n := nT) hy; omega)) k 0 (by omega) (by omega)
      rw [show ((0 : Nat) : Int) = 0 from rfl, List.take_zero, List.map_nil] at h
      unfold Z1o
      rw [h]; rfl
    rw [Zk]
    unfold Z8r
    cases a with
    | mk x1 x2 x3 x4 =>
    rw [Za2, Zbc, Zdk, obs, hL, hL, rnm, Zpb, Z79]
    by_cases c : x1 = 1
    · rw [if_pos (by simpa using c), if_pos c]
    · rw [if_neg (by simpa using c), if_neg c]
theorem Znb (n v n' : Int) : ∀ M : List (Int × Int), mget (mset M n v) n' = if n = n' then v else mget M n'
  | [] => rfl
  | p :: M => by
    rw [mset]
    by_cases c : p.1 = n
    · rw [if_pos c, mget, mget]
      by_cases e : n = n'
      · rw [if_pos e, if_pos e]
      · rw [if_neg e, if_neg e, if_neg (by rw [c]; exact e)]
    · rw [if_neg c, mget, mget, Znb n v n' M]
      by_cases e : p.1 = n'
      · rw [if_pos e, if_pos e, if_neg (fun h => c (by rw [e, h]))]
      · rw [if_neg e, if_neg e]
theorem Zfk {x : List Int} (nd : x.Nodup) {i j : Nat} (hi : i < x.length) (hj : j < x.length) (h : x[i] = x[j]) : i = j := by
  have p := List.pairwise_iff_getElem.1 nd
  rcases Nat.lt_trichotomy i j with c | c | c
  · exact absurd h (p i j hi hj c)
  · exact c
  · exact absurd h.symm (p j i hj hi c)
theorem mapI {k : Nat} {x y : List Int} (nd : x.Nodup) (hl : x.length = y.length) (hm : x.length ≤ 100000) : ∀ (m j : Nat) (M : List (Int × Int)), j ≤ x.length → x.length - j < m → (∀ (i : Nat) (h1 : i < x.length) (h2 : i < y.length), i < j → mget M x[i] = y[i]) →
    ∃ M', Z6g k x y m (j : Int) M = some (.done M') ∧ ∀ (i : Nat) (h1 : i < x.length) (h2 : i < y.length), mget M' x[i] = y[i]
  | 0, j, M, h1, h2, h3 => by omega
  | m + 1, j, M, h1, h2, h3 => by
    rw [Z6g]
    by_cases c : j < x.length
    · have c' : j < y.length := by omega
      rw [if_pos (by simpa using c), Z7r c, obs, Z7r c', obs, Zjd (by omega)]
      refine mapI nd hl hm m (j + 1) _ (by omega) (by omega) (fun i h4 h5 h6 => ?_)
      rw [Znb]
      by_cases e : i = j
      · subst e; rw [if_pos rfl]
      · have : x[j] ≠ x[i] := fun q => e (Zfk nd c h4 q).symm
        rw [if_neg this]
        exact h3 i h4 h5 (by omega)
    · rw [if_neg (by simpa using c)]
      exact ⟨M, rfl, fun i h4 h5 => h3 i h4 h5 (by omega)⟩
theorem Zt0 {k : Nat} {l : List Int} (x : Int) (hl : l.length ≤ 100000) : ∀ (m j : Nat), j ≤ l.length → l.length - j < m → (∃ q : Nat, Z1j k l x m (j : Int) = some (.ret (q : Int)) ∧ x ∈ l.drop j) ∨ (Z1j k l x m (j : Int) = some (.done ()) ∧ ¬ x ∈ l.drop j)
  | 0, j, h1, h2 => by omega
  | m + 1, j, h1, h2 => by
    rw [Z1j]
    by_cases c : j < l.length
    · rw [if_pos (by simpa using c), Z7r c, obs, List.drop_eq_getElem_cons c]
      by_cases e : x = l[j]
      · rw [if_pos (by simpa using e)]
        exact .inl ⟨j, rfl, by rw [e]; exact List.mem_cons_self ..⟩
      · rw [if_neg (by simpa using e), Zjd (by omega)]
        rcases Zt0 (k := k) x hl m (j + 1) (by omega) (by omega) with ⟨q, a1, a2⟩ | ⟨a1, a2⟩
        · exact .inl ⟨q, a1, List.mem_cons_of_mem _ a2⟩
        · exact .inr ⟨a1, fun h => (List.mem_cons.1 h).elim e a2⟩
    · rw [if_neg (by simpa using c), List.drop_of_length_le (by omega)]
      exact .inr ⟨rfl, by simp⟩
theorem Zqs {k : Nat} {l : List Int} (x : Int) (hl : l.length ≤ 100000) (hk : 100000 < k) : Z1x k l x = some (decide (x ∈ l)) := by
  unfold Z1x Z36
  have h := Zt0 (k := k) x hl k 0 (by omega) (by omega)
  rw [show ((0 : Nat) : Int) = 0 from rfl, List.drop_zero] at h
  rcases h with ⟨q, a1, a2⟩ | ⟨a1, a2⟩
  · rw [a1, obs]
    simp only [obs]
    rw [decide_eq_true a2, decide_eq_true (by omega)]
  · rw [a1, obs]
    simp only [obs]
    rw [decide_eq_false a2]; rfl
theorem addL {k : Nat} {x : GTerm} {f : List Int → GTerm → Option (List Int)} (hx : x.gKids.length ≤ 100000)
    (hf : ∀ y ∈ x.gKids, ∀ s, s.length + 1 + nT y ≤ 90000 → f s y = some (uniq (vs y) s)) :
    ∀ (m j : Nat) (s : List Int), j ≤ x.gKids.length → x.gKids.length - j < m → s.length + nsum nT (x.gKids.drop j) ≤ 90000 →
      Z6d k f x m s (j : Int) = some (.done (uniq (vss (x.gKids.drop j)) s))
  | 0, j, s, h1, h2, h3 => by omega
  | m + 1, j, s, h1, h2, h3 => by
    unfold Z6d
    by_cases hlt : j < x.gKids.length
    · rw [Zfj hlt] at h3
      have hl := Zce (vs x.gKids[j]) s
      have hl2 := Zjf x.gKids[j]
      rw [if_pos (by simpa using hlt), Z7r hlt, obs, hf _ (List.getElem_mem hlt) s (by omega), obs, Zjd (by omega), addL hx hf m (j + 1) _ (by omega) (by omega) (by omega), Zmr hlt, Zi2]
    · rw [if_neg (by simpa using hlt), List.drop_of_length_le (by omega), vss, uniq]
theorem addV : ∀ (k : Nat) (x : GTerm), maxLen + 2 * nT x + 2 < k → nT x ≤ 1000 → ∀ s, s.length + 1 + nT x ≤ 90000 → Z38 k s x = some (uniq (vs x) s)
  | 0, x, h => by omega
  | k + 1, x, hw => by
    intro hn s h2
    have hM := Z15
    have hk := Z6p x
    have hlen := Z81 nT x.gKids
    have e : ∀ s : List Int, s.length + nT x ≤ 90000 → Z6f k (Z38 k) x s = some (uniq (vss x.gKids) s) := by
      intro s hs
      have e := addL (k := k) (f := Z38 k) (x := x) (by omega) (fun y hy s g2 => by have := Z4t (n := nT) hy; exact addV k y (by omega) (by omega) s g2) k 0 s (by omega) (by omega) (by rw [List.drop_zero]; omega)
      rw [show ((0 : Nat) : Int) = 0 from rfl, List.drop_zero] at e
      unfold Z6f
      rw [e]; rfl
    unfold Z38
    rw [Zrc]
    by_cases c1 : x.gKind = 1
    · rw [if_pos (by simpa using c1), if_pos c1, Zqs _ (by omega) (by omega), obs]
      unfold Z6e
      rw [List.singleton_append, uniq]
      by_cases hs : x.gNum ∈ s
      · rw [if_neg (by simp [hs]), if_pos hs, e s (by omega)]
      · rw [if_pos (by simp [hs]), if_neg hs, if_pos (by simp; omega), e _ (by simp; omega)]
    · rw [if_neg (by simpa using c1), if_neg c1]
      unfold Z6e
      rw [if_neg (by simp), List.nil_append, e s (by omega)]
mutual
def Lk (x y : List Int) : GTerm → GTerm → Prop
  | .mk a n v l, .mk a' n' v' l' => a = a' ∧ n = n' ∧ ((a = 1 ∧ l.length = l'.length ∧ x.idxOf v = y.idxOf v') ∨ (a ≠ 1 ∧ v = v' ∧ Lks x y l l'))
def Lks (x y : List Int) : List GTerm → List GTerm → Prop
  | [], [] => True
  | a :: l, b :: m => Lk x y a b ∧ Lks x y l m
  | _, _ => False
end
theorem Zdm {x y : List Int} : ∀ {l m : List GTerm}, Lks x y l m → l.length = m.length
  | [], [], _ => rfl
  | a :: l, b :: m, h => by rw [Lks] at h; rw [List.length_cons, List.length_cons, Zdm h.2]
  | [], b :: m, h => by rw [Lks] at h; exact h.elim; all_goals simp
  | a :: l, [], h => by rw [Lks] at h; exact h.elim; all_goals simp
theorem Zot {v : Int} : ∀ {l : List GTerm} {y : GTerm}, y ∈ l → v ∈ vs y → v ∈ vss l
  | x :: l, y, h, hv => by
    rw [vss, List.mem_append]
    rcases List.mem_cons.1 h with rfl | h
    · exact .inl hv
    · exact .inr (Zot h hv)
theorem Zsg {v : Int} {x y : GTerm} (h : y ∈ x.gKids) (hv : v ∈ vs y) : v ∈ vs x := by
  rw [Zrc, List.mem_append]; exact .inr (Zot h hv)
theorem Zov {x : GTerm} (h : x.gKind = 1) : x.gNum ∈ vs x := by rw [Zrc, if_pos h]; simp
theorem Zvh {A B : List Int} (hA : A.length ≤ 100000) (hB : B.length ≤ 100000) : ∀ (k : Nat) (a b : GTerm), maxLen + 2 * nT a + 2 < k → nT a ≤ 100000 → (∀ v ∈ vs a, v ∈ A) → (∀ v ∈ vs b, v ∈ B) → ∃ r, Z3m k a b A B = some r ∧ (r = true ↔ Lk A B a b)
  | 0, a, b, hw, hn, _, _ => by omega
  | k + 1, a, b, hw, hn, ha, hb => by
    have hM := Z15
    have hk := Z6p a
    have hlen := Z81 nT a.gKids
    have no : ∀ {p : Prop}, ¬ p → ((false = true) ↔ p) := fun h => ⟨fun e => (by cases e), fun e => absurd e h⟩
    have h1 : a.gKind = 1 → ∃ c, Z8s k A a.gNum = some c ∧ c = ((A.idxOf a.gNum : Nat) : Int) := fun e => ⟨_, Zvk hA (by omega) (ha _ (Zov e)), rfl⟩
    have h2 : b.gKind = 1 → ∃ c, Z8s k B b.gNum = some c ∧ c = ((B.idxOf b.gNum : Nat) : Int) := fun e => ⟨_, Zvk hB (by omega) (hb _ (Zov e)), rfl⟩
    have h3 : a.gKids.length = b.gKids.length → (Z5k k (Z3m k) a b A B k 0 = some (.done ()) ∧ Lks A B a.gKids b.gKids) ∨ (Z5k k (Z3m k) a b A B k 0 = some (.ret false) ∧ ¬ Lks A B a.gKids b.gKids) := fun e => by
      have h := Zm1 (F := fun x y => Z3m k x y A B) (Lf := Z5k k (Z3m k) a b A B) (l := a.gKids) (l' := b.gKids) (P := Lk A B) (PL := Lks A B) (by rw [Lks]; trivial) (fun x y l m => by rw [Lks]) (fun m j => rfl) e (by omega)
        (fun j g1 g2 => by
          have := Z4t (n := nT) (List.getElem_mem g1)
          exact Zvh hA hB k _ _ (by omega) (by omega) (fun v hv => ha v (Zsg (List.getElem_mem g1) hv)) (fun v hv => hb v (Zsg (List.getElem_mem g2) hv))) k 0 (by omega) (by omega)
      rwa [show ((0 : Nat) : Int) = 0 from rfl, List.drop_zero, List.drop_zero] at h
    rw [Z3m]
    cases a with
    | mk x1 x2 x3 x4 =>
    cases b with
    | mk y1 y2 y3 y4 =>
    rw [Lk, Za2, Za2, Zbc, Zbc, Zdk, Zdk, Z79, Z79] at *
    by_cases c1 : x1 = y1
    · rw [if_neg (by simpa using c1)]
      by_cases c2 : x2 = y2
      · rw [if_neg (by rw [Z91.2 c2]; decide)]
        by_cases c4 : x4.length = y4.length
        · rw [if_neg (by simp [c4])]
          by_cases c : x1 = 1
          · obtain ⟨q, q1, q2⟩ := h1 c
            obtain ⟨q', q3, q4⟩ := h2 (c1 ▸ c)
            rw [if_pos (by simpa using c), q1, obs, q3, obs]
            refine ⟨_, rfl, ?_⟩
            rw [beq_iff_eq, q2, q4]
            constructor
            · intro e; exact ⟨c1, c2, .inl ⟨c, c4, by omega⟩⟩
            · rintro ⟨_, _, e | e⟩
              · rw [e.2.2]
              · exact absurd c e.1
          · rw [if_neg (by simpa using c)]
            by_cases c3 : x3 = y3
            · rw [if_neg (by simpa using c3)]
              rcases h3 c4 with ⟨a1, a2⟩ | ⟨a1, a2⟩
              · rw [a1, obs]; exact ⟨true, rfl, fun _ => ⟨c1, c2, .inr ⟨c, c3, a2⟩⟩, fun _ => rfl⟩
              · rw [a1, obs]
                refine ⟨false, rfl, no ?_⟩
                rintro ⟨_, _, e | e⟩
                · exact c e.1
                · exact a2 e.2.2
            · rw [if_pos (by simpa using c3)]
              refine ⟨false, rfl, no ?_⟩
              rintro ⟨_, _, e | e⟩
              · exact c e.1
              · exact c3 e.2.1
        · rw [if_pos (by simp; omega)]
          refine ⟨false, rfl, no ?_⟩
          rintro ⟨_, _, e | e⟩
          · exact c4 e.2.1
          · exact c4 (Zdm e.2.2)
      · rw [if_pos (by simpa using fun e => c2 (Z91.1 e))]
        exact ⟨false, rfl, no (fun e => c2 e.2.1)⟩
    · rw [if_pos (by simpa using c1)]
      exact ⟨false, rfl, no (fun e => c1 e.1)⟩
mutual
def vk : GTerm → Prop
  | .mk a _ _ l => (a = 1 → l = []) ∧ vks l
def vks : List GTerm → Prop
  | [] => True
  | x :: l => vk x ∧ vks l
end
mutual
theorem Zu3 : ∀ (x : GTerm) (d : Int), gT d x = true → vk x
  | .mk a b c l, d, h => by
    rw [gT] at h
    simp only [Bool.and_eq_true] at h
    rw [vk]
    refine ⟨fun e => ?_, Zt2 l _ h.2.2⟩
    have o := h.2.1
    unfold one at o
    rw [Za2, if_pos e] at o
    simp only [Bool.and_eq_true, beq_iff_eq, Z79] at o
    exact List.eq_nil_of_length_eq_zero (by omega)
theorem Zt2 : ∀ (l : List GTerm) (d : Int), gTs d l = true → vks l
  | [], d, h => by rw [vks]; trivial
  | x :: l, d, h => by
    rw [gTs, Bool.and_eq_true] at h
    rw [vks]
    exact ⟨Zu3 x d h.1, Zt2 l d h.2⟩
end
mutual
theorem Zsu {A B : List Int} {f : Int → Int} (hf : ∀ v ∈ A, ∀ w ∈ B, (A.idxOf v = B.idxOf w ↔ f v = w)) : ∀ a b : GTerm, vk a → vk b → (∀ v ∈ vs a, v ∈ A) → (∀ v ∈ vs b, v ∈ B) → (Lk A B a b ↔ rnm f a = b)
  | .mk x1 x2 x3 x4, .mk y1 y2 y3 y4, va, vb, ha, hb => by
    rw [vk] at va vb
    rw [Lk, rnm, GTerm.mk.injEq]
    have ih := Zq3 hf x4 y4 va.2 vb.2 (fun v hv => ha v (by rw [vs, List.mem_append]; exact .inr hv)) (fun v hv => hb v (by rw [vs, List.mem_append]; exact .inr hv))
    constructor
    · rintro ⟨e1, e2, e | e⟩
      · have k1 := va.1 e.1
        have k2 := vb.1 (e1 ▸ e.1)
        have m1 : x3 ∈ A := ha _ (by rw [vs, if_pos e.1]; simp)
        have m2 : y3 ∈ B := hb _ (by rw [vs, if_pos (e1 ▸ e.1)]; simp)
        rw [if_pos e.1, k1, k2, rnms]
        exact ⟨e1, e2, (hf _ m1 _ m2).1 e.2.2, rfl⟩
      · rw [if_neg e.1]
        exact ⟨e1, e2, e.2.1, ih.1 e.2.2⟩
    · rintro ⟨e1, e2, e3, e4⟩
      by_cases c : x1 = 1
      · have k1 := va.1 c
        have k2 := vb.1 (e1 ▸ c)
        have m1 : x3 ∈ A := ha _ (by rw [vs, if_pos c]; simp)
        have m2 : y3 ∈ B := hb _ (by rw [vs, if_pos (e1 ▸ c)]; simp)
        rw [if_pos c] at e3
        exact ⟨e1, e2, .inl ⟨c, by rw [k1, k2], (hf _ m1 _ m2).2 e3⟩⟩
      · rw [if_neg c] at e3
        exact ⟨e1, e2, .inr ⟨c, e3, ih.2 e4⟩⟩
theorem Zq3 {A B : List Int} {f : Int → Int} (hf : ∀ v ∈ A, ∀ w ∈ B, (A.idxOf v = B.idxOf w ↔ f v = w)) : ∀ l m : List GTerm, vks l → vks m → (∀ v ∈ vss l, v ∈ A) → (∀ v ∈ vss m, v ∈ B) → (Lks A B l m ↔ rnms f l = m)
  | [], [], _, _, _, _ => by rw [Lks, rnms]; simp
  | [], b :: m, _, _, _, _ => by rw [rnms]; exact ⟨fun h => by have := Zdm h; simp at this, fun h => by cases h⟩
  | a :: l, [], _, _, _, _ => by rw [rnms]; exact ⟨fun h => by have := Zdm h; simp at this, fun h => by cases h⟩
  | a :: l, b :: m, va, vb, ha, hb => by
    rw [vks] at va vb
    rw [Lks, rnms, List.cons.injEq, Zsu hf a b va.1 vb.1 (fun v hv => ha v (by rw [vss, List.mem_append]; exact .inl hv)) (fun v hv => hb v (by rw [vss, List.mem_append]; exact .inl hv)), Zq3 hf l m va.2 vb.2 (fun v hv => ha v (by rw [vss, List.mem_append]; exact .inr hv)) (fun v hv => hb v (by rw [vss, List.mem_append]; exact .inr hv))]
end
mutual
theorem Zsv {A B : List Int} : ∀ a b : GTerm, vk a → vk b → Lk A B a b → (vs a).map A.idxOf = (vs b).map B.idxOf
  | .mk x1 x2 x3 x4, .mk y1 y2 y3 y4, va, vb, h => by
    rw [vk] at va vb
    rw [Lk] at h
    obtain ⟨e1, e2, e | e⟩ := h
    · rw [vs, vs, if_pos e.1, if_pos (e1 ▸ e.1), va.1 e.1, vb.1 (e1 ▸ e.1), vss]
      simp [e.2.2]
    · rw [vs, vs, if_neg e.1, if_neg (e1 ▸ e.1), List.nil_append, List.nil_append]
      exact Zq4 x4 y4 va.2 vb.2 e.2.2
theorem Zq4 {A B : List Int} : ∀ l m : List GTerm, vks l → vks m → Lks A B l m → (vss l).map A.idxOf = (vss m).map B.idxOf
  | [], [], _, _, _ => by rw [vss]; rfl
  | [], b :: m, _, _, h => by have := Zdm h; simp at this
  | a :: l, [], _, _, h => by have := Zdm h; simp at this
  | a :: l, b :: m, va, vb, h => by
    rw [vks] at va vb
    rw [Lks] at h
    rw [vss, vss, List.map_append, List.map_append, Zsv a b va.1 vb.1 h.1, Zq4 l m va.2 vb.2 h.2]
end
theorem Zb6 : ∀ (l o : List Int), o.Nodup → (uniq l o).Nodup
  | [], o, h => h
  | x :: l, o, h => by
    rw [uniq]
    split
    · exact Zb6 l o h
    · rename_i c
      refine Zb6 l _ ?_
      rw [List.nodup_append]
      exact ⟨h, by simp, fun a ha b hb e => by rw [List.mem_singleton] at hb; subst hb; exact c (e ▸ ha)⟩
theorem Zqe {l : List Int} (nd : l.Nodup) {i : Nat} (h : i < l.length) : l.idxOf l[i] = i :=
  Zfk nd (List.idxOf_lt_length_of_mem (List.getElem_mem h)) h (List.getElem_idxOf _)
theorem Znf {a b : GTerm} (va : vk a) (vb : vk b) {A B : List Int} (hA : ∀ v ∈ vs a, v ∈ A) (hB : ∀ v ∈ B, v ∈ vs b) (nd : B.Nodup) (hl : A.length < B.length) : (vs a).map A.idxOf ≠ (vs b).map B.idxOf := by
  intro e
  have hb : B.length - 1 < B.length := by omega
  have m : B.length - 1 ∈ (vs b).map B.idxOf := List.mem_map.2 ⟨_, hB _ (List.getElem_mem hb), Zqe nd hb⟩
  rw [← e] at m
  obtain ⟨v, v1, v2⟩ := List.mem_map.1 m
  have := List.idxOf_lt_length_of_mem (hA v v1)
  omega
mutual
theorem Zpc (f : Int → Int) : ∀ a : GTerm, nT (rnm f a) = nT a
  | .mk a n v l => by rw [rnm, nT, nT, Zpa f l]
theorem Zpa (f : Int → Int) : ∀ l : List GTerm, nTs (rnms f l) = nTs l
  | [] => by rw [rnms]
  | x :: l => by rw [rnms, nTs, nTs, Zpc f x, Zpa f l]
end
theorem Zrd {k : Nat} (hk : 10000000 < k - maxLen) {a b : GTerm} (ha : tOk a = true) (hb : tOk b = true) : ∃ r, Z9g k a b = some r ∧ Z9d k a b = some r := by
  have hM := Z15
  unfold tOk at ha hb
  simp only [Bool.and_eq_true, decide_eq_true_eq] at ha hb
  have va := Zu3 a 1 ha.2
  have vb := Zu3 b 1 hb.2
  have lA := Zce (vs a) []
  have lB := Zce (vs b) []
  have lA2 := Zjf a
  have lB2 := Zjf b
  rw [List.length_nil] at lA lB
  have ndA := Zb6 (vs a) [] (by simp)
  have ndB := Zb6 (vs b) [] (by simp)
  have mA : ∀ v ∈ vs a, v ∈ uniq (vs a) [] := fun v hv => (Zcs _ _ _).2 (.inl hv)
  have mB : ∀ v ∈ vs b, v ∈ uniq (vs b) [] := fun v hv => (Zcs _ _ _).2 (.inl hv)
  have mA' : ∀ v ∈ uniq (vs a) [], v ∈ vs a := fun v hv => ((Zcs _ _ _).1 hv).elim id fun h => by cases h
  have mB' : ∀ v ∈ uniq (vs b) [], v ∈ vs b := fun v hv => ((Zcs _ _ _).1 hv).elim id fun h => by cases h
  unfold Z9g Z9d Zar Zal
  simp only [Zm2 k a (by omega) (by omega) [] (by simp; omega), addV k a (by omega) (by omega) [] (by simp; omega), Zm2 k b (by omega) (by omega) [] (by simp; omega), addV k b (by omega) (by omega) [] (by simp; omega), obs]
  generalize hx : uniq (vs a) [] = x at *
  generalize hy : uniq (vs b) [] = y at *
  obtain ⟨r, e1, e2⟩ := Zvh (A := x) (B := y) (by omega) (by omega) k a b (by omega) (by omega) mA mB
  rw [e1, obs]
  refine ⟨r, rfl, ?_⟩
  by_cases c : x.length = y.length
  · rw [if_neg (by simp [c])]
    obtain ⟨M, q1, q2⟩ := mapI (k := k) ndA c (by omega) k 0 [] (by omega) (by omega) (fun i _ _ h => by omega)
    obtain ⟨r2, e3, e4⟩ := Zuv k (rnm (mget M) a) b (by rw [Zpc]; omega) (by rw [Zpc]; omega)
    rw [show ((0 : Nat) : Int) = 0 from rfl] at q1
    rw [q1, obs]
    simp only
    rw [renI k a (by omega) (by omega), obs, e3, obs]
    have hf : ∀ v ∈ x, ∀ w ∈ y, (x.idxOf v = y.idxOf w ↔ mget M v = w) := by
      intro v hv w hw
      have i1 := List.idxOf_lt_length_of_mem hv
      have i2 := List.idxOf_lt_length_of_mem hw
      have g1 : x[x.idxOf v] = v := List.getElem_idxOf i1
      have g2 : y[y.idxOf w] = w := List.getElem_idxOf i2
      have q := q2 (x.idxOf v) i1 (by omega)
      rw [g1] at q
      rw [q]
      constructor
      · intro e; refine Eq.trans ?_ g2; simp only [e]
      · intro e; exact Zfk ndB (by omega) i2 (by rw [g2]; exact e)
    have := Zsu hf a b va vb mA mB
    have : r2 = r := by
      rw [Bool.eq_iff_iff, e4, e2, this]
    rw [this]
  · rw [if_pos (by simp; omega)]
    have : r = false := by
      cases r with
      | false => rfl
      | true =>
        have h := Zsv a b va vb (e2.1 rfl)
        rcases Nat.lt_or_gt_of_ne c with q | q
        · exact absurd h (Znf va vb mA mB' ndB q)
        · exact absurd h.symm (Znf vb va mB mA' ndA q)
    rw [this]
theorem Zmn {k : Nat} {L : List GSign} (hL : L.length ≤ 3000) : ∀ (m j : Nat), L.length - j < m → j ≤ L.length → ∃ o, Z5b k L m (j : Int) = some o
  | 0, j, h, _ => by omega
  | m + 1, j, h, h2 => by
    rw [Z5b]
    by_cases c : j < L.length
    · have w : wr.i64 (wr.i64 ((j : Int) + 1) - 1) = (j : Int) := by rw [wsuc (by omega)]; exact Zop (by omega)
      rw [if_pos (by simpa using c), w, Z7r c, obs, wsuc (by omega)]
      split
      · exact ⟨_, rfl⟩
      · exact Zmn hL m (j + 1) (by omega) (by omega)
    · rw [if_neg (by simpa using c)]
      exact ⟨_, rfl⟩
theorem Zr1 {k : Nat} {L : List GSign} (hL : L.length ≤ 3000) : ∀ (m j : Nat), L.length - j < m → j ≤ L.length → ∃ o, Z58 k L m (j : Int) = some o ∧ ∀ r, o = .ret r → r.2.2.2 = false
  | 0, j, h, _ => by omega
  | m + 1, j, h, h2 => by
    rw [Z58]
    by_cases c : j < L.length
    · have w : wr.i64 (wr.i64 ((j : Int) + 1) - 1) = (j : Int) := by rw [wsuc (by omega)]; exact Zop (by omega)
      rw [if_pos (by simpa using c), w, Z7r c, obs, wsuc (by omega)]
      split
      · exact ⟨_, rfl, fun r e => by cases e; rfl⟩
      · exact Zr1 hL m (j + 1) (by omega) (by omega)
    · rw [if_neg (by simpa using c)]
      exact ⟨_, rfl, fun r e => by cases e⟩
theorem Zpg {k : Nat} (hk : 10000000 < k - maxLen) {L : List GSign} (hL : Toks L) : ∃ r q, Z5g k L 0 = some r ∧ Z7f k L 0 = some q ∧
    ((r.2.2.2 = false ∧ q.2.2.2 = false) ∨ (r = q ∧ r.2.2.2 = true ∧ tOk r.1 = true ∧ r.1.ok)) := by
  have hM := Z15
  have hl := hL.len
  obtain ⟨o, b1⟩ := Zmn (k := k) hl k 0 (by omega) (by omega)
  obtain ⟨p, b2, b3⟩ := Zr1 (k := k) hl k 0 (by omega) (by omega)
  rw [show ((0 : Nat) : Int) = 0 from rfl] at b1 b2
  have B : ∃ c, Z5d k L 0 = some c := by
    unfold Z5d Z5c
    rw [if_neg (by decide), b1, obs]
    cases o with
    | ret r => exact ⟨_, rfl⟩
    | done u => exact ⟨_, rfl⟩
  obtain ⟨c, B⟩ := B
  have J : ∃ q, Z59 k L 0 = some q ∧ q.2.2.2 = false := by
    unfold Z59
    rw [if_neg (by decide), b2, obs]
    cases p with
    | ret r => exact ⟨_, rfl, b3 r rfl⟩
    | done u => exact ⟨_, rfl, rfl⟩
  obtain ⟨q, J, jf⟩ := J
  unfold Z5g Z7f
  rw [B, Zs4, Zes, obs, obs, obs]
  by_cases hin : inR 0 0 (wr.i64 ((L.length : Int) - 1)) = true
  · obtain ⟨rs, ri, r1, r2, r3⟩ := Zun hL 130 (Nat.le_refl _) k k 0 0 [] 1200 (by omega) (by omega) (by omega) (by omega) (by simp)
    have r1 : Z8 k (GXr.mk L 0 false 0 []) 1200 = some rs := r1
    have r2 : Z3 k (GParser.mk L 0 [] 0 false) 1200 = some ri := r2
    rw [hin, if_neg (by decide), if_pos rfl, r1, obs, r2, obs]
    rcases r3 with ⟨j, N, x, a1, a2, a3, a4, a5, rfl, rfl⟩ | ⟨e1, e2⟩
    · have a5 : 1 + nT x ≤ j - 0 := a5
      simp only
      rw [sIs0 (by decide), obs, if_pos (show (!(II L j 0 N).gBad) = true from rfl), Zqg atII (by omega), obs]
      simp only
      cases c5 : (tkn L j).gKind == 5 with
      | false =>
        unfold Z4e Z3p
        rw [if_pos (by decide), if_neg Bool.false_ne_true, if_pos rfl, if_neg Bool.false_ne_true, J]
        exact ⟨_, _, rfl, rfl, .inl ⟨rfl, jf⟩⟩
      | true =>
        rw [if_neg (by decide), if_pos rfl, Zbv (k := k) (x := x) (by omega) a4, Zc1 (k := k) (x := x) (by omega) a4, obs, obs]
        unfold Z4e Z3p
        cases ct : tOk x with
        | false =>
          rw [if_pos (by decide), if_neg Bool.false_ne_true, J]
          exact ⟨_, _, rfl, rfl, .inl ⟨rfl, jf⟩⟩
        | true =>
          rw [if_neg (by decide), if_pos rfl, if_pos (by show ([] : List ByteArray).length + N.length ≤ _; rw [List.length_nil]; omega)]
          exact ⟨_, _, rfl, rfl, .inr ⟨rfl, rfl, ct, a4⟩⟩
    · rw [sIsB e1, obs, if_pos (show (!(rs.1, false).2) = true from rfl), e2.1, if_neg (show ¬ (!true) = true by decide)]
      unfold Z4e Z3p
      rw [if_pos rfl, if_neg Bool.false_ne_true, J]
      exact ⟨_, _, rfl, rfl, .inl ⟨rfl, jf⟩⟩
  · rw [if_pos (by simpa using hin), if_neg hin, J]
    exact ⟨_, _, rfl, rfl, .inl ⟨rfl, jf⟩⟩
theorem toks {s : ByteArray} {p : Nat} (hs : s.size ≤ 3000) (hp : s.size ≤ p) {g : List GSign} (h : RowI s p g) (hl : g.length ≤ s.size) : Toks g :=
  ⟨h.tk, fun i x h1 h2 => (h.nr i x h1 h2).elim id fun q => by omega, by omega⟩
theorem Zru {k : Nat} (hk : 10000000 < k - maxLen) (s : ByteArray) : ∃ r q, Z8f k s = some r ∧ Z8c k s = some q ∧
    ((r.2.2 = false ∧ q.2.2 = false) ∨ (r = q ∧ r.2.2 = true ∧ tOk r.1 = true)) := by
  have hM := Z15
  unfold Z8f Z8c Z71 Z65
  by_cases hs : (s.size : Int) > 3000
  · rw [if_pos (by simpa using hs), if_pos (by simpa using hs), obs, obs, if_pos (by decide)]
    obtain ⟨o, b1⟩ := Zmn (k := k) (L := []) (by simp) k 0 (by simp; omega) (by omega)
    rw [show ((0 : Nat) : Int) = 0 from rfl] at b1
    have B : ∃ c, Z5d k [] 0 = some c := by
      unfold Z5d Z5c
      rw [if_neg (by decide), b1, obs]
      cases o with
      | ret r => exact ⟨_, rfl⟩
      | done u => exact ⟨_, rfl⟩
    obtain ⟨c, B⟩ := B
    have R : Z5g k [] 0 = some (GTerm.mk 0 (bs []) 0 [], [], c, false) := by
      unfold Z5g
      rw [B, Zs4, obs, obs, show inR 0 0 (wr.i64 ((([] : List GSign).length : Int) - 1)) = false from by decide]
      rfl
    simp only
    rw [R, obs, if_pos (show (!(GTerm.mk 0 (bs []) 0 [], ([] : List ByteArray), c, false).2.2.2) = true from rfl)]
    unfold Z50
    rw [if_pos rfl]
    exact ⟨_, _, rfl, rfl, .inl ⟨rfl, rfl⟩⟩
  · obtain ⟨g, g1, g2, g3, p, g4, g5⟩ := Z8p (k := k) (by omega) (s := s) (by omega) (fun n _ _ => by omega) k 0 [] (by omega) (by omega) (by simp) RowI.nil
    have hL := toks (by omega) g4 g5 g3
    obtain ⟨r, q, r1, r2, r3⟩ := Zpg hk hL
    rw [show ((0 : Nat) : Int) = 0 from rfl] at g1 g2
    rw [if_neg (by simpa using hs), if_neg (by simpa using hs), g1, g2]
    simp only [obs]
    rw [if_neg (by decide), r1, r2, obs, obs]
    rcases r3 with ⟨e1, e2⟩ | ⟨rfl, e2, e3, e4⟩
    · unfold Z50
      rw [e1, e2, if_pos (by decide), if_pos rfl, if_pos (by decide)]
      exact ⟨_, _, rfl, rfl, .inl ⟨rfl, rfl⟩⟩
    · unfold Z50
      rw [e2, if_neg (show ¬ (!true) = true by decide), if_neg (show ¬ (!true) = true by decide)]
      cases c : (r.2.2.1 != (g.length : Int)) with
      | true =>
        rw [if_pos rfl]
        exact ⟨_, _, rfl, rfl, .inl ⟨rfl, rfl⟩⟩
      | false =>
        rw [if_neg Bool.false_ne_true]
        exact ⟨_, _, rfl, rfl, .inr ⟨rfl, rfl, e3⟩⟩
theorem Zpf {k : Nat} (hk : 10000000 < k - maxLen) {x : GTerm} (hx : x.ok) (hn : nT x ≤ 1048576) : ∃ r, Z7l k x = some r ∧ Z7e k x = some r := by
  have hM := Z15
  unfold Z7l Z7e
  rw [Zbv (by omega) hx, Zc1 (by omega) hx, obs, obs]
  cases ht : tOk x with
  | false => exact ⟨_, rfl, rfl⟩
  | true =>
    have hg := ht
    unfold tOk at hg
    simp only [Bool.and_eq_true, decide_eq_true_eq] at hg
    obtain ⟨s, f1, f2, f3⟩ := Zmq 400 (Nat.le_refl _) k k (by omega) (by omega) x 1 hg.2 (by omega)
    have w1 : Z7k k x = some s := by
      unfold Z7k
      rw [Zbv (by omega) hx, ht, obs, if_neg (by decide), f2, obs]
    have w2 : Z7c k x = some s := by
      unfold Z7c
      rw [Zc1 (by omega) hx, ht, obs, if_neg (by decide), f1, obs]
    rw [if_neg (by decide), if_neg (by decide), w1, w2, obs, obs]
    have so : Z11 s (bs [32, 46]) := by
      unfold Z11
      rw [show (bs [32, 46]).size = 2 from rfl]
      omega
    rw [if_pos so, if_pos so]
    obtain ⟨r, q, r1, r2, r3⟩ := Zru hk (s ++ bs [32, 46])
    rw [r1, r2, obs, obs]
    rcases r3 with ⟨e1, e2⟩ | ⟨rfl, e2, e3⟩
    · rw [e1, e2, if_neg (by decide), if_neg (by decide)]
      exact ⟨_, rfl, rfl⟩
    · obtain ⟨v, v1, v2⟩ := Zrd hk e3 ht
      rw [e2, if_pos rfl, if_pos rfl, v1, v2, obs]
      exact ⟨_, rfl, rfl⟩
theorem law (x : GTerm) (hx : x.ok) : ∃ k, Z3t k x = some true := by
  obtain ⟨k, hk⟩ : ∃ k, maxLen + 4 * nT x + 1099511627776 < k := ⟨_, Nat.lt_succ_self _⟩
  refine ⟨k, ?_⟩
  have hm : maxLen = 9223372036854775807 := Z15
  have hH : Huge = 1152921504606846976 := rfl
  have hw : maxLen + 2 * nT x + 2 < k := by omega
  unfold Z3t
  obtain ⟨r, e1, h2, h3⟩ := Zup (k := k) hw hx 1048576 (by omega) (by unfold Small; omega)
  rw [e1, obs]
  by_cases hr : r < 0
  · rw [if_pos (by simpa using hr)]
  rw [if_neg (by simpa using hr)]
  have hn : nT x ≤ 1048576 := by omega
  have t0 := Zum (k := k) hw hn
  have q2 := Zw3 (k := k) (x := x) hw (by omega)
  obtain ⟨b, e2, e3⟩ := Zpf (k := k) (by omega) hx hn
  simp only [t0, e2, e3, obs, q2, Bool.not_true, Bool.false_eq_true, if_false, beq_self_eq_true]
end FnExactReadsBack
end Go.Proofs.YtkchjlmfonfjlaaGreatDoor

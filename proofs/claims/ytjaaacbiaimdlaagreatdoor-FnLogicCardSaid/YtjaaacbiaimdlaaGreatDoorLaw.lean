/- The law, plainly. -/
import Derived.Test.YtjaaacbiaimdlaaGreatDoorFn
set_option linter.unusedVariables false
set_option linter.unusedSimpArgs false
namespace Go.Proofs.YtjaaacbiaimdlaaGreatDoor
open Go.RowKit Go.Bv
namespace FnLogic
mutual
/-- How many terms stand in a term. -/
def nT : Gt → Nat
 | .mk _ _ _ l => nTs l
def nTs : List Gt → Nat
 | [] => 0
 | x :: l => 1 + nT x + nTs l
end
theorem Zzc : ∀ l : List Gt, nTs l = nsum nT l
 | [] => by rw [nTs]; rfl
 | x :: l => by rw [nTs, nsum, Zzc l]
theorem Z5v (x : Gt) : nT x = nsum nT x.ga := by
 cases x with
 | mk a b c l => rw [nT, Zzc]; rfl

theorem Zjg {x : Gt} (h : x.ok) : okL Gt.ok x.ga := by cases h with | mk a b c l h1 h2 h3 h4 h5 => exact ⟨h4, h5⟩
theorem Zv5 {x : Gt} (h : x.ok) : okFs x.gn := by cases h with | mk a b c l h1 h2 h3 h4 h5 => exact h2
theorem Z10d {x : Gt} (h : x.ok) : okI .i64 x.gi := by cases h with | mk a b c l h1 h2 h3 h4 h5 => exact h1
theorem Zza {x : Gt} (h : x.ok) : okI .i64 x.gj := by cases h with | mk a b c l h1 h2 h3 h4 h5 => exact h3

theorem Zig (a : Int) (b : ByteArray) (c : Int) (l : List Gt) : (Gt.mk a b c l).gi = a := rfl
theorem Zif (a : Int) (b : ByteArray) (c : Int) (l : List Gt) : (Gt.mk a b c l).gn = b := rfl
theorem Zmz (a : Int) (b : ByteArray) (c : Int) (l : List Gt) : (Gt.mk a b c l).gj = c := rfl
theorem Zcg (a : Int) (b : ByteArray) (c : Int) (l : List Gt) : (Gt.mk a b c l).ga = l := rfl

def inR (x a b : Int) : Bool := decide (a ≤ x ∧ x ≤ b)
theorem Z10t {x a b : Int} (h : a ≤ x ∧ x ≤ b) : inR x a b = true := decide_eq_true h
theorem Z10u {x a b : Int} (h : ¬ (a ≤ x ∧ x ≤ b)) : inR x a b = false := decide_eq_false h
theorem Zfa (k : Nat) (x a b : Int) : Z35 k x a b = some (inR x a b) := by
 unfold Z35 inR
 by_cases h : a ≤ x
 ·rw [if_pos (by simpa using h)]; simp [h]
 ·rw [if_neg (by simpa using h)]; simp [h]
theorem Z13j (s : ByteArray) (i : Int) : 0 ≤ bt s i ∧ bt s i ≤ 255 := by
 unfold bt
 have : ((s[i.toNat]?).getD 0).toNat < 256 := ((s[i.toNat]?).getD 0).toNat_lt
 omega
def gb (s : ByteArray) (i : Nat) : Prop := 33 ≤ bt s (i : Int) ∧ bt s (i : Int) ≤ 126 ∧ bt s (i : Int) ≠ 39 ∧ bt s (i : Int) ≠ 34
instance (s : ByteArray) (i : Nat) : Decidable (gb s i) := by unfold gb; infer_instance
def nmOk (s : ByteArray) : Prop := (∀ i, i < s.size → gb s i) ∧ 1 ≤ s.size ∧ s.size ≤ 20
instance (s : ByteArray) : Decidable (nmOk s) := by unfold nmOk; infer_instance
theorem Zoe (k : Nat) (s : ByteArray) (hs : s.size ≤ maxLen) : ∀ (m n : Nat), n ≤ s.size → s.size - n < m →
  ∃ o, Z8l k s m (n : Int) = some o ∧ (match o with | .ret r => r = false ∧ ∃ i, i < s.size ∧ ¬ gb s i | .done _ => ∀ i, n ≤ i → i < s.size → gb s i)
 | 0, n, h1, h2 => by omega
 | m + 1, n, h1, h2 => by
  unfold Z8l
  by_cases hlt : n < s.size
  ·have hg : 0 ≤ (n : Int) ∧ (n : Int).toNat < s.size := ⟨by omega, by simpa using hlt⟩
   have hb := Z13j s (n : Int)
   have bad : ∀ b : Prop, (gb s n → ¬ b) → b → ∃ o, (some (Out.ret false) : Option (Out Bool Unit)) = some o ∧ (match o with | .ret r => r = false ∧ ∃ i, i < s.size ∧ ¬ gb s i | .done _ => ∀ i, n ≤ i → i < s.size → gb s i) :=
    fun b h hb => ⟨_, rfl, rfl, n, hlt, fun h' => h h' hb⟩
   rw [if_pos (by simpa using hlt), if_pos hg, Zfa, Z4w (by omega) (by omega)]
   simp only [Option.bind_some]
   by_cases c1 : 33 ≤ bt s (n : Int) ∧ bt s (n : Int) ≤ 126
   ·rw [Z10t c1, if_neg (by simp), if_pos hg]
    by_cases c3 : bt s (n : Int) = 39
    ·rw [if_pos (by simpa using c3)]; exact bad _ (fun h => h.2.2.1) c3
    rw [if_neg (by simpa using c3), if_pos hg]
    by_cases c4 : bt s (n : Int) = 34
    ·rw [if_pos (by simpa using c4)]; exact bad _ (fun h => h.2.2.2) c4
    rw [if_neg (by simpa using c4), Z3v hlt hs]
    obtain ⟨o, h3, h4⟩ := Zoe k s hs m (n + 1) (by omega) (by omega)
    refine ⟨o, h3, ?_⟩
    cases o with
    | ret r => exact h4
    | done u =>
     intro i hi1 hi2
     by_cases e : i = n
     ·subst e; exact ⟨by omega, by omega, c3, c4⟩
     ·exact h4 i (by omega) hi2
   ·rw [Z10u c1, if_pos (by simp)]
    exact bad _ (fun h => by have := h.1; have := h.2.1; omega) c1
  ·rw [if_neg (by simpa using hlt)]
   exact ⟨_, rfl, fun i h3 h4 => by omega⟩
theorem Z13e {s : ByteArray} (h : ∀ i, 0 ≤ i → i < s.size → gb s i) : inR (s.size : Int) 1 20 = decide (nmOk s) := by
 unfold inR
 rw [decide_eq_decide]
 unfold nmOk
 constructor
 ·intro h1; exact ⟨fun i hi => h i (by omega) hi, by omega, by omega⟩
 ·intro h1; obtain ⟨_, h5, h6⟩ := h1; omega
theorem Zzb {k : Nat} {s : ByteArray} (hs : s.size ≤ maxLen) (hk : maxLen < k) : Za0 k s = some (decide (nmOk s)) := by
 unfold Za0
 obtain ⟨o, h1, h2⟩ := Zoe k s hs k 0 (by omega) (by omega)
 rw [show ((0 : Nat) : Int) = 0 from rfl] at h1
 rw [h1]
 cases o with
 | ret r =>
  obtain ⟨rfl, i, h3, h4⟩ := h2
  have : ¬ nmOk s := fun h => h4 (h.1 i h3)
  simp [this]
 | done u =>
  simp only [Option.bind_some]
  rw [Zfa]
  simp only [Option.bind_some]
  rw [Z13e h2]
def one (x : Gt) : Bool :=
 if x.gi = 1 then inR x.gj 0 99999 && (sEq x.gn (bs []) && ((x.ga.length : Int) == 0))
 else if x.gi = 2 then decide (nmOk x.gn) && ((x.gj == 0) && ((x.ga.length : Int) == 0))
 else if x.gi = 3 then inR x.gj (-999999999) 999999999 && (sEq x.gn (bs []) && ((x.ga.length : Int) == 0))
 else if x.gi = 4 then decide (nmOk x.gn) && ((x.gj == 0) && inR (x.ga.length : Int) 1 5)
 else false
mutual
def gT : Int → Gt → Bool
 | d, .mk a b c l => decide (d ≤ 40) && (one (.mk a b c l) && gTs (d + 1) l)
def gTs : Int → List Gt → Bool
 | _, [] => true
 | d, x :: l => gT d x && gTs d l
end
theorem Zti (d : Int) (x : Gt) : gT d x = (decide (d ≤ 40) && (one x && gTs (d + 1) x.ga)) := by
 cases x with
 | mk a b c l => rw [gT]; rfl
theorem Zy7 {d : Int} {l : List Gt} {j : Nat} (h : j < l.length) : gTs d (l.drop j) = (gT d l[j] && gTs d (l.drop (j + 1))) := by
 rw [List.drop_eq_getElem_cons h, gTs]
theorem Zjk {l : List Gt} {j : Nat} (h : j < l.length) : nsum nT (l.drop j) = 1 + nT l[j] + nsum nT (l.drop (j + 1)) := by
 rw [List.drop_eq_getElem_cons h, nsum]
def tOk (x : Gt) : Bool := decide (1 + nT x ≤ 400) && gT 1 x
def cnt (d : Int) (x : Gt) : Int := if gT d x && decide (1 + nT x ≤ 400) then ((1 + nT x : Nat) : Int) else 401
theorem Zrp {k : Nat} {x : Gt} {d : Int} {f : Gt → Int → Option Int} (hx : x.ga.length ≤ maxLen) (hd : wr.i64 (d + 1) = d + 1) (hf : ∀ y ∈ x.ga, f y (d + 1) = some (cnt (d + 1) y)) :
  ∀ (m j : Nat) (b : Int), j ≤ x.ga.length → x.ga.length - j < m → 1 ≤ b → b ≤ 400 →
   Z9x k f x d m b (j : Int) = some (if gTs (d + 1) (x.ga.drop j) && decide (b + (nsum nT (x.ga.drop j) : Int) ≤ 400) then .done (b + (nsum nT (x.ga.drop j) : Int)) else .ret 401)
 | 0, j, b, h1, h2, h3, h4 => by omega
 | m + 1, j, b, h1, h2, h3, h4 => by
  unfold Z9x
  by_cases hlt : j < x.ga.length
  ·rw [if_pos (by simpa using hlt), Z4c hlt, hd]
   simp only [Option.bind_some, hf _ (List.getElem_mem hlt)]
   rw [Zy7 hlt, Zjk hlt, Z3v hlt hx]
   by_cases hg : gT (d + 1) x.ga[j] = true ∧ 1 + nT x.ga[j] ≤ 400
   ·have hc : cnt (d + 1) x.ga[j] = ((1 + nT x.ga[j] : Nat) : Int) := by unfold cnt; rw [if_pos (by simpa using hg)]
    rw [hc, Z4w (by omega) (by omega)]
    by_cases hs : b + ((1 + nT x.ga[j] : Nat) : Int) > 400
    ·rw [if_pos (by simpa using hs), if_neg]
     simp only [Bool.and_eq_true, decide_eq_true_eq, not_and]
     intro _; omega
    ·rw [if_neg (by simpa using hs), Zrp hx hd hf m (j + 1) _ (by omega) (by omega) (by omega) (by omega), hg.1, Bool.true_and]
     have e1 : b + ((1 + nT x.ga[j] : Nat) : Int) + (nsum nT (x.ga.drop (j + 1)) : Int) = b + ((1 + nT x.ga[j] + nsum nT (x.ga.drop (j + 1)) : Nat) : Int) := by omega
     rw [e1]
   ·have hc : cnt (d + 1) x.ga[j] = 401 := by unfold cnt; rw [if_neg (by simpa using hg)]
    rw [hc, Z4w (by omega) (by omega), if_pos (by simp; omega), if_neg]
    simp only [Bool.and_eq_true, decide_eq_true_eq, not_and]
    intro h5
    have h6 : ¬ (1 + nT x.ga[j] ≤ 400) := fun h => hg ⟨h5.1, h⟩
    omega
  ·rw [if_neg (by simpa using hlt), List.drop_of_length_le (by omega), gTs, if_pos (by simp only [nsum]; simp; omega)]
   simp [nsum]
theorem Z11r : ∀ (k : Nat) (x : Gt), maxLen + 2 * nT x + 2 < k → x.ok → ∀ d : Int, 0 ≤ d → d ≤ 41 → Z5a k x d = some (cnt d x)
 | 0, x, h => by omega
 | k + 1, x, hw => by
  intro hx d h0 h1
  have hn := Z5v x
  have hnm := Zzb (k := k) (s := x.gn) (Zv5 hx) (by omega)
  have hJ : d ≤ 40 → one x = true → Z63 k (Z5a k) x d = some (cnt d x) := by
   intro hd h1
   unfold Z63 cnt
   have e := Zrp (k := k) (x := x) (d := d) (Zjg hx).1 (Z4w (by omega) (by omega)) (fun y hy => by have := Z7q (n := nT) hy; exact Z11r k y (by omega) ((Zjg hx).2 y hy) (d + 1) (by omega) (by omega)) k 0 1 (by omega) (by have := (Zjg hx).1; omega) (by omega) (by omega)
   rw [show ((0 : Nat) : Int) = 0 from rfl, List.drop_zero, ← hn] at e
   rw [e, Zti, h1, Bool.true_and, decide_eq_true hd, Bool.true_and]
   have e2 : decide (1 + (nT x : Int) ≤ 400) = decide (1 + nT x ≤ 400) := by rw [decide_eq_decide]; omega
   rw [e2]
   split
   ·simp
   ·simp
  have hbad : one x = false → (401 : Int) = cnt d x := by
   intro h1; unfold cnt; rw [Zti, h1]; simp
  unfold Z5a
  by_cases hd : d > 40
  ·rw [if_pos (by simpa using hd)]
   unfold cnt; rw [Zti, decide_eq_false (show ¬ d ≤ 40 by omega)]; simp
  have hJ' := hJ (by omega)
  rw [if_neg (by simpa using hd)]
  simp only [hnm, Zfa, Option.bind_some]
  generalize Z63 k (Z5a k) x d = J at hJ' ⊢
  generalize cnt d x = C at hJ' hbad ⊢
  have hlen : ((x.ga.length : Int) > 0) ↔ ¬ ((x.ga.length : Int) = 0) := by omega
  unfold one at hJ' hbad
  by_cases c1 : x.gi = 1
  ·rw [if_pos (by simpa using c1)]
   rw [if_pos c1] at hJ' hbad
   cases h2 : inR x.gj 0 99999 <;> cases h3 : sEq x.gn (bs []) <;> by_cases h4 : (x.ga.length : Int) = 0 <;> simp_all
  rw [if_neg (by simpa using c1)]
  rw [if_neg c1] at hJ' hbad
  by_cases c2 : x.gi = 2
  ·rw [if_pos (by simpa using c2)]
   rw [if_pos c2] at hJ' hbad
   cases h2 : decide (nmOk x.gn) <;> by_cases h3 : x.gj = 0 <;> by_cases h4 : (x.ga.length : Int) = 0 <;> simp_all
  rw [if_neg (by simpa using c2)]
  rw [if_neg c2] at hJ' hbad
  by_cases c3 : x.gi = 3
  ·rw [if_pos (by simpa using c3)]
   rw [if_pos c3] at hJ' hbad
   cases h2 : inR x.gj (-999999999) 999999999 <;> cases h3 : sEq x.gn (bs []) <;> by_cases h4 : (x.ga.length : Int) = 0 <;> simp_all
  rw [if_neg (by simpa using c3)]
  rw [if_neg c3] at hJ' hbad
  by_cases c4 : x.gi = 4
  ·rw [if_pos (by simpa using c4)]
   rw [if_pos c4] at hJ' hbad
   cases h2 : decide (nmOk x.gn) <;> by_cases h3 : x.gj = 0 <;> cases h4 : inR (x.ga.length : Int) 1 5 <;> simp_all
  ·rw [if_neg (by simpa using c4)]
   rw [if_neg c4] at hbad
   rw [hbad rfl]
theorem Zjs {k : Nat} {x : Gt} (hw : maxLen + 2 * nT x + 2 < k) (hx : x.ok) : Z3u k x = some (tOk x) := by
 unfold Z3u tOk
 rw [Z11r k x hw hx 1 (by omega) (by omega)]
 simp only [Option.bind_some]
 unfold cnt
 cases gT 1 x <;> by_cases h : 1 + nT x ≤ 400 <;> simp [h] <;> omega
theorem Zli {k : Nat} {f : Gt → Option Gt} {x : Gt} {a c : Int} {b : ByteArray} (hl : x.ga.length ≤ 1048576) (hf : ∀ y ∈ x.ga, f y = some y) :
  ∀ (m j : Nat), j ≤ x.ga.length → x.ga.length - j < m → Z1o k f x m (j : Int) (.mk a b c (x.ga.take j)) = some (.done (.mk a b c x.ga))
 | 0, j, h1, h2 => by omega
 | m + 1, j, h1, h2 => by
  unfold Z1o
  have hm : x.ga.length ≤ maxLen := by rw [Zl]; omega
  by_cases hlt : j < x.ga.length
  ·rw [if_pos (by simpa using hlt), Z4c hlt]
   simp only [Option.bind_some, hf _ (List.getElem_mem hlt)]
   rw [show (Gt.mk a b c (x.ga.take j)).ga = x.ga.take j from rfl, show (Gt.mk a b c (x.ga.take j)).gi = a from rfl, show (Gt.mk a b c (x.ga.take j)).gn = b from rfl, show (Gt.mk a b c (x.ga.take j)).gj = c from rfl]
   rw [if_pos (by simp; omega), Z3v hlt hm, ← List.take_succ_eq_append_getElem hlt]
   exact Zli hl hf m (j + 1) (by omega) (by omega)
  ·rw [if_neg (by simpa using hlt), List.take_of_length_le (by omega)]
theorem Zuv : ∀ (k : Nat) (x : Gt), maxLen + 2 * nT x + 2 < k → nT x ≤ 1048576 → Zb k x = some x
 | 0, x, h => by omega
 | k + 1, x, hw => by
  intro hx
  have hk := Z5v x
  have := Zar nT x.ga
  have e := Zli (k := k) (f := Zb k) (x := x) (a := x.gi) (b := x.gn) (c := x.gj) (by omega) (fun y hy => by have := Z7q (n := nT) hy; exact Zuv k y (by omega) (by omega)) k 0 (by omega) (by omega)
  rw [show ((0 : Nat) : Int) = 0 from rfl, List.take_zero] at e
  have hx : Gt.mk x.gi x.gn x.gj x.ga = x := by cases x; rfl
  rw [hx] at e
  have e2 : Z1p k (Zb k) x (Gt.mk x.gi x.gn x.gj []) = some x := by
   unfold Z1p; rw [e]; rfl
  unfold Zb
  simp only [Z79, Option.bind_some, e2]
  split <;> rfl
theorem Zyg {k : Nat} {x : Gt} (hw : maxLen + 2 * nT x + 2 < k) (hx : nT x ≤ 1048576) : Z2m k x = some x := by
 unfold Z2m; rw [Zuv k x hw hx]; rfl
theorem obs {α β : Type} {a : α} {f : α → Option β} : (some a).bind f = f a := by
 cases h : f a with
 | none => exact h
 | some b => exact h
theorem Znp (x : Int) : 0 ≤ band .i64 x 255 ∧ band .i64 x 255 ≤ 255 := by
 have h : ∀ b : BitVec 64, (b &&& BitVec.ofInt 64 255).toNat ≤ 255 := by
  intro b
  rw [BitVec.toNat_and]
  exact Nat.and_le_right
 have e : band .i64 x 255 = IntKind.wrap .i64 ((BitVec.ofInt 64 x &&& BitVec.ofInt 64 255).toNat) := rfl
 have h1 := h (BitVec.ofInt 64 x)
 generalize (BitVec.ofInt 64 x &&& BitVec.ofInt 64 255).toNat = n at e h1
 have e2 : wr.i64 (n : Int) = n := Z4w (by omega) (by omega)
 rw [e, show IntKind.wrap .i64 (n : Int) = wr.i64 (n : Int) from rfl, e2]
 omega
theorem Zsr {α : Type} {l : List α} {v : Int} (h1 : 0 ≤ v) (h2 : v < (l.length : Int)) : ∃ (h : v.toNat < l.length), at' l v = some l[v.toNat] := by
 obtain ⟨n, rfl⟩ := Int.eq_ofNat_of_zero_le h1
 exact ⟨by omega, Z4c (by omega)⟩
def Znu (c : GXc) : Prop := c.gB.length ≤ 1048576 ∧ 0 ≤ c.gI ∧ c.gI ≤ (c.gB.length : Int)
theorem Zor (k : Nat) (a : List Int) (hl : a.length ≤ 1048576) : ∀ (m j : Nat) (h : Int), j ≤ a.length → a.length - j < m → ∃ r, Z8t k a m h (j : Int) = some (.done r)
 | 0, j, h, h1, h2 => by omega
 | m + 1, j, h, h1, h2 => by
  rw [Z8t]
  have hM := Zl
  by_cases c : j < a.length
  ·rw [if_pos (by simpa using c)]
   split
   ·rw [Z4c c, Z3v c (by omega)]
    exact Zor k a hl m (j + 1) _ (by omega) (by omega)
   ·exact ⟨_, rfl⟩
  ·rw [if_neg (by simpa using c)]
   exact ⟨_, rfl⟩
theorem Zze {k : Nat} {a : List Int} (hl : a.length ≤ 1048576) (hk : maxLen < k) : ∃ c, Zbk k a = some c ∧ Znu c := by
 unfold Zbk
 have hM := Zl
 obtain ⟨r, e⟩ := Zor k a hl k 0 (wr.i64 (95101 + (a.length : Int))) (by omega) (by omega)
 rw [show ((0 : Nat) : Int) = 0 from rfl] at e
 rw [e]
 exact ⟨_, rfl, hl, by simp, by simp⟩
theorem Z10q {c : GXc} (h : Znu c) (k : Nat) : ∃ c' v, Zbl k c = some (c', v) ∧ Znu c' ∧ 0 ≤ v ∧ v ≤ 255 := by
 unfold Zbl
 obtain ⟨h1, h2, h3⟩ := h
 by_cases g : c.gI < (c.gB.length : Int)
 ·rw [if_pos (by simpa using g)]
  obtain ⟨hn, e⟩ := Zsr h2 g
  rw [e]
  refine ⟨_, _, rfl, ⟨h1, ?_, ?_⟩, (Znp _).1, (Znp _).2⟩
  ·simp only; rw [Z4w (by omega) (by omega)]; omega
  ·simp only; rw [Z4w (by omega) (by omega)]; omega
 ·rw [if_neg (by simpa using g)]
  exact ⟨_, _, rfl, ⟨h1, h2, h3⟩, (Znp _).1, (Znp _).2⟩
theorem Zih {c : GXc} (h : Znu c) (k : Nat) {n : Int} (h0 : 0 < n) (hn : n ≤ 256) : ∃ c' v, Z66 k c n = some (c', v) ∧ Znu c' ∧ 0 ≤ v ∧ v < n := by
 unfold Z66
 obtain ⟨c', v, e, h1, h2, h3⟩ := Z10q h k
 rw [if_neg (by simpa using h0), if_pos (by simpa using hn), e, obs, if_pos (by omega)]
 exact ⟨_, _, rfl, h1, Int.tmod_nonneg _ h2, Int.tmod_lt_of_pos _ h0⟩
theorem Z12y {α : Type} {l : List α} {v : Int} (h1 : 0 ≤ v) (h2 : v < (l.length : Int)) : ∃ x, at' l v = some x ∧ x ∈ l := by
 obtain ⟨hn, e⟩ := Zsr h1 h2
 exact ⟨_, e, List.getElem_mem hn⟩
theorem Zvn {c : GXc} (h : Znu c) (k : Nat) {l : List ByteArray} (hl : 0 < l.length) (hl2 : l.length ≤ 256) : ∃ c' s, Z9q k c l = some (c', s) ∧ Znu c' ∧ s ∈ l := by
 unfold Z9q
 obtain ⟨c', v, e, h1, h2, h3⟩ := Zih h k (n := (l.length : Int)) (by omega) (by omega)
 obtain ⟨s, e2, h5⟩ := Z12y h2 h3
 simp only [e, e2, Option.bind_some]
 exact ⟨_, _, rfl, h1, h5⟩
theorem Zvo {c : GXc} (h : Znu c) (k : Nat) {n : Int} (h0 : 0 < n) (hn : n ≤ 256) : ∃ c' b, Z85 k c n = some (c', b) ∧ Znu c' := by
 unfold Z85
 obtain ⟨c', v, e, h1, h2, h3⟩ := Zih h k h0 hn
 simp only [e, Option.bind_some]
 exact ⟨_, _, rfl, h1⟩
theorem Zi2 {a : Int} {b : ByteArray} {c : Int} {l : List Gt} (h1 : -9223372036854775808 ≤ a ∧ a ≤ 9223372036854775807) (h2 : b.size ≤ 9223372036854775807) (h3 : -9223372036854775808 ≤ c ∧ c ≤ 9223372036854775807) (h4 : l.length ≤ 9223372036854775807) (h5 : ∀ x ∈ l, x.ok) : (Gt.mk a b c l).ok := by
 have e1 : IntKind.i64.min = -9223372036854775808 := rfl
 have e2 : IntKind.i64.max = 9223372036854775807 := rfl
 have hM := Zl
 exact .mk _ _ _ _ (by unfold okI; omega) (by unfold okFs; omega) (by unfold okI; omega) (by omega) h5
inductive Nm : Gt → Prop where
 | mk {a : Int} {b : ByteArray} {c : Int} {l : List Gt} : b.size ≤ 20 → (∀ x ∈ l, Nm x) → Nm (.mk a b c l)
theorem Nm.name {x : Gt} (h : Nm x) : x.gn.size ≤ 20 := by cases h; assumption
theorem Nm.kid {x y : Gt} (h : Nm x) (hy : y ∈ x.ga) : Nm y := by cases h with | mk h1 h2 => exact h2 y hy
theorem Zs1 {x y : Gt} (h : x.ok) (hy : y ∈ x.ga) : y.ok := by cases h with | mk a b c l h1 h2 h3 h4 h5 => exact h5 y hy
mutual
theorem Z10w : ∀ (x : Gt) (d : Int), gT d x = true → Nm x
 | .mk a b c l, d, h => by
  rw [gT] at h
  simp only [Bool.and_eq_true] at h
  refine .mk ?_ (Zzl l (d + 1) h.2.2)
  have h1 := h.2.1
  unfold one at h1
  have e : (Gt.mk a b c l).gn = b := rfl
  rw [e] at h1
  split at h1
  ·simp only [Bool.and_eq_true] at h1; rw [Zax.1 h1.2.1]; decide
  ·split at h1
   ·simp only [Bool.and_eq_true] at h1; exact (of_decide_eq_true h1.1).2.2
   ·split at h1
    ·simp only [Bool.and_eq_true] at h1; rw [Zax.1 h1.2.1]; decide
    ·split at h1
     ·simp only [Bool.and_eq_true] at h1; exact (of_decide_eq_true h1.1).2.2
     ·cases h1
theorem Zzl : ∀ (l : List Gt) (d : Int), gTs d l = true → ∀ x ∈ l, Nm x
 | [], d, h => fun x hx => by cases hx
 | y :: l, d, h => by
  rw [gTs] at h
  simp only [Bool.and_eq_true] at h
  intro x hx
  rcases List.mem_cons.1 hx with h1 | hx
  ·rw [h1]; exact Z10w y d h.1
  ·exact Zzl l d h.2 x hx
end
def BigT (x : Gt) : Prop := x.ok ∧ nT x ≤ 400 ∧ Nm x
theorem Z98 {x y : Gt} (h : BigT x) (hy : y ∈ x.ga) : BigT y := by
 have h3 := Z5v x
 have h4 := Z7q (n := nT) hy
 have h5 := h.2.1
 exact ⟨Zs1 h.1 hy, by omega, h.2.2.kid hy⟩
theorem Z6h {x : Gt} (h : BigT x) : x.ga.length ≤ 400 := by
 have h2 := h.2.1
 have h3 := Z5v x
 have h4 := Zar nT x.ga
 omega
def AllB (l : List Gt) : Prop := ∀ z ∈ l, BigT z
theorem AllB.set {l : List Gt} (h : AllB l) (i : Nat) {x : Gt} (hx : BigT x) : AllB (l.set i x) := fun z hz => by
 rcases List.mem_or_eq_of_mem_set hz with h1 | rfl
 ·exact h z h1
 ·exact hx
def wk : Nat → List Gt → Gt → Gt
 | 0, _, x => x
 | n + 1, l, x => if x.gi = 1 ∧ 0 ≤ x.gj ∧ x.gj < (l.length : Int) then (match l[x.gj.toNat]? with
  | some y => if y.gi = 0 then x else wk n l y
  | none => x) else x
theorem Zpz {Q : Gt → Prop} {l : List Gt} (hl : ∀ z ∈ l, Q z) : ∀ (n : Nat) (x : Gt), Q x → Q (wk n l x)
 | 0, x, hx => hx
 | n + 1, x, hx => by
  rw [wk]
  split
  ·split
   ·rename_i y hy
    split
    ·exact hx
    ·exact Zpz hl n y (hl y (List.mem_of_getElem? hy))
   ·exact hx
  ·exact hx
theorem Zl8 {n : Nat} {l : List Gt} {x : Gt} (h : x.gi ≠ 1) : wk n l x = x := by
 cases n with
 | zero => rfl
 | succ n => rw [wk, if_neg (fun c => h c.1)]
theorem Zu9 (k : Nat) (l : List Gt) (hl : l.length ≤ 1048576) : ∀ (m n : Nat) (x : Gt), n ≤ 5000 → 5000 - n < m →
  Z8k k l m (n : Int) x = some (.done (wk (5000 - n) l x)) ∧ Z6m k l m (n : Int) x = some (.done (wk (5000 - n) l x))
 | 0, n, x, h1, h2 => by omega
 | m + 1, n, x, h1, h2 => by
  unfold Z8k Z6m
  have hw1 : wr.i64 ((l.length : Int) - 1) = (l.length : Int) - 1 := Z4w (by omega) (by omega)
  by_cases hlt : n < 5000
  ·have hd : decide ((n : Int) < 5000) = true := by simp; omega
   obtain ⟨q, hq⟩ : ∃ q, 5000 - n = q + 1 := ⟨4999 - n, by omega⟩
   rw [if_pos hd, if_pos hd, Zfa, hw1, hq, wk]
   simp only [Option.bind_some]
   by_cases hk : x.gi = 1
   ·have e2 : (x.gi == 1) = true := by simp [hk]
    by_cases ha : 0 ≤ x.gj ∧ x.gj ≤ (l.length : Int) - 1
    ·have e3 : inR x.gj 0 ((l.length : Int) - 1) = true := Z10t ha
     obtain ⟨i, hi⟩ : ∃ i : Nat, x.gj = (i : Int) := ⟨x.gj.toNat, by omega⟩
     have hil : i < l.length := by omega
     have hs : wr.i64 ((n : Int) + 1) = ((n + 1 : Nat) : Int) := by rw [Z4w (by omega) (by omega)]; omega
     simp only [e2, e3, if_true]
     rw [hi, if_pos ⟨hk, by omega, by omega⟩, Int.toNat_natCast, List.getElem?_eq_getElem hil]
     simp only [Z4c hil, Option.bind_some, hs]
     by_cases h0 : l[i].gi = 0
     ·have e5 : (l[i].gi != 0) = false := by simp [h0]
      simp only [e5, Bool.false_eq_true, if_false, if_pos h0]
      refine ⟨?_, ?_⟩ <;> first | rfl | trivial
     ·have e5 : (l[i].gi != 0) = true := by simp [h0]
      simp only [e5, if_true, if_neg h0]
      have := Zu9 k l hl m (n + 1) l[i] (by omega) (by omega)
      rw [show 5000 - (n + 1) = q by omega] at this
      exact this
    ·have e3 : inR x.gj 0 ((l.length : Int) - 1) = false := Z10u ha
     simp only [e2, e3, Bool.false_eq_true, if_false, if_true]
     rw [if_neg (fun c => ha ⟨c.2.1, by omega⟩)]
     refine ⟨?_, ?_⟩ <;> first | rfl | trivial
   ·have e2 : (x.gi == 1) = false := by simp [hk]
    simp only [e2, Bool.false_eq_true, if_false]
    rw [if_neg (fun c => hk c.1)]
    refine ⟨?_, ?_⟩ <;> first | rfl | trivial
  ·have hd : ¬ decide ((n : Int) < 5000) = true := by simp; omega
   rw [if_neg hd, if_neg hd, show 5000 - n = 0 by omega]
   refine ⟨?_, ?_⟩ <;> first | rfl | trivial
theorem Zq0 {k : Nat} (hk : maxLen < k) {l : List Gt} (hl : l.length ≤ 1048576) (x : Gt) :
  Z9w k l x = some (wk 5000 l x) ∧ Z1y k l x = some (l, wk 5000 l x) := by
 rw [Zl] at hk
 unfold Z9w Z1y
 obtain ⟨h1, h2⟩ := Zu9 k l hl k 0 x (by omega) (by omega)
 rw [show ((0 : Nat) : Int) = 0 from rfl] at h1 h2
 rw [h1, h2]
 refine ⟨?_, ?_⟩ <;> first | rfl | trivial
def Z0 : Gt := .mk 0 (bs []) 0 []
def Z6k (l : List Gt) : Nat → Gt → Int → Int × Gt × Bool
 | 0, _, left => (left - 1, Z0, false)
 | n + 1, x, left => if left - 1 < 0 then (left - 1, Z0, false) else
  match fillsP (fun y b => Z6k l n y b) (wk 5000 l x).ga (left - 1) with
  | (left', o, true) => (left', .mk (wk 5000 l x).gi (wk 5000 l x).gn (wk 5000 l x).gj o, true)
  | (left', _, false) => (left', Z0, false)
where
 fillsP (f : Gt → Int → Int × Gt × Bool) : List Gt → Int → Int × List Gt × Bool
 | [], left => (left, [], true)
 | x :: xs, left => match f x left with
  | (left', y, true) => match fillsP f xs left' with
   | (left'', ys, g) => (left'', y :: ys, g)
  | (left', _, false) => (left', [], false)
theorem Zw1 {k : Nat} {f : List Gt → Gt → Int → Int → Option (Int × Gt × Bool)} {F : Gt → Int → Int × Gt × Bool} {x : Gt} {d : Int} {l : List Gt} (hx : x.ga.length ≤ 400) (hd : wr.i64 (d + 1) = d + 1)
  (hf : ∀ z ∈ x.ga, ∀ b : Int, 0 ≤ b → b ≤ 400 → f l z (d + 1) b = some (F z b) ∧ ((F z b).2.2 = true → 0 ≤ (F z b).1 ∧ (F z b).1 ≤ b)) :
  ∀ (m j : Nat) (a : Int) (s : ByteArray) (c : Int) (o : List Gt) (b : Int), j ≤ x.ga.length → x.ga.length - j < m → o.length = j → 0 ≤ b → b ≤ 400 →
   Z8m k f x l d m (j : Int) (.mk a s c o) b = some (match Z6k.fillsP F (x.ga.drop j) b with
    | (b', o', true) => .done (.mk a s c (o ++ o'), b')
    | (b', _, false) => .ret (b', Z0, false))
 | 0, j, a, s, c, o, b, h1, h2, h3, h4, h5 => by omega
 | m + 1, j, a, s, c, o, b, h1, h2, h3, h4, h5 => by
  have hm : x.ga.length ≤ maxLen := by rw [Zl]; omega
  unfold Z8m
  by_cases hlt : j < x.ga.length
  ·rw [if_pos (by simpa using hlt), Z4c hlt, hd, List.drop_eq_getElem_cons hlt]
   obtain ⟨e, g⟩ := hf _ (List.getElem_mem hlt) b h4 h5
   simp only [obs]
   rw [e]
   simp only [obs]
   rw [Z6k.fillsP]
   rcases hF : F x.ga[j] b with ⟨b', y, t⟩
   cases t with
   | false => rfl
   | true =>
    rw [hF] at g
    obtain ⟨g1, g2⟩ := g rfl
    simp only at g1 g2
    rw [if_neg (by simp), if_pos (by rw [Zcg]; simp; omega), Z3v hlt hm, Zcg, Zig, Zif, Zmz, Zw1 (k := k) hx hd hf m (j + 1) a s c (o ++ [y]) b' (by omega) (by omega) (by simp; omega) g1 (by omega)]
    rcases hr : Z6k.fillsP F (x.ga.drop (j + 1)) b' with ⟨b'', ys, t⟩
    simp only [hr]
    cases t with
    | false => rfl
    | true => simp
  ·rw [if_neg (by simpa using hlt), List.drop_of_length_le (by omega)]
   simp [Z6k.fillsP]
theorem Zow {F : Gt → Int → Int × Gt × Bool} : ∀ {xs : List Gt} {b : Int} {b' : Int} {o : List Gt}, (∀ z ∈ xs, ∀ b b' y, F z b = (b', y, true) → 0 ≤ b' ∧ b' = b - (1 + nT y)) → 0 ≤ b →
  Z6k.fillsP F xs b = (b', o, true) → 0 ≤ b' ∧ b' = b - nsum nT o ∧ o.length = xs.length
 | [], b, b', o, hF, h0, h => by
  rw [Z6k.fillsP] at h
  cases h
  exact ⟨h0, by simp [nsum], rfl⟩
 | x :: xs, b, b', o, hF, h0, h => by
  rw [Z6k.fillsP] at h
  rcases e : F x b with ⟨b1, y, t⟩
  rw [e] at h
  cases t with
  | false => cases h
  | true =>
   simp only at h
   rcases e2 : Z6k.fillsP F xs b1 with ⟨b2, ys, t⟩
   rw [e2] at h
   cases h
   obtain ⟨h1, h2⟩ := hF x (List.mem_cons_self ..) b b1 y e
   obtain ⟨h3, h4, h5⟩ := Zow (fun z hz => hF z (List.mem_cons_of_mem _ hz)) h1 e2
   refine ⟨h3, ?_, by simp [h5]⟩
   show b2 = b - ((nsum nT (y :: ys) : Nat) : Int)
   rw [nsum]
   omega
theorem Zij {l : List Gt} : ∀ (n : Nat) {x : Gt} {b b' : Int} {o : Gt}, Z6k l n x b = (b', o, true) → 0 ≤ b' ∧ b' = b - (1 + nT o)
 | 0, x, b, b', o, h => by rw [Z6k] at h; cases h
 | n + 1, x, b, b', o, h => by
  rw [Z6k] at h
  split at h
  ·cases h
  ·rename_i hb
   split at h
   ·rename_i b2 ys e
    cases h
    obtain ⟨h1, h2, h3⟩ := Zow (fun z hz b b' y h => Zij n h) (by omega) e
    refine ⟨h1, ?_⟩
    rw [Z5v, Zcg]
    omega
   ·cases h
theorem fill : ∀ (k d : Nat) (l : List Gt) (x : Gt) (b : Int), l.length ≤ 1048576 → AllB l → BigT x → d ≤ 41 → maxLen + (42 - d) < k → 0 ≤ b → b ≤ 400 →
  Z6p k l x (d : Int) b = some (Z6k l (41 - d) x b)
 | 0, d, l, x, b, hl, ha, hx, hd, hk, h0, h4 => by omega
 | k + 1, d, l, x, b, hl, ha, hx, hd, hk, h0, h4 => by
  have hM := Zl
  have hw : wr.i64 (b - 1) = b - 1 := Z4w (by omega) (by omega)
  unfold Z6p
  rw [(Zq0 (k := k) (by omega) hl x).1]
  have hy : BigT (wk 5000 l x) := Zpz ha 5000 x hx
  simp only [obs]
  rw [hw]
  by_cases c1 : b - 1 < 0
  ·rw [if_pos (by simpa using c1)]
   cases 41 - d with
   | zero => rfl
   | succ n => rw [Z6k, if_pos c1]; rfl
  rw [if_neg (by simpa using c1)]
  by_cases c2 : (d : Int) > 40
  ·rw [if_pos (by simpa using c2), show 41 - d = 0 by omega]
   rfl
  rw [if_neg (by simpa using c2)]
  obtain ⟨n, hn⟩ : ∃ n, 41 - d = n + 1 := ⟨40 - d, by omega⟩
  have hwd : wr.i64 ((d : Int) + 1) = (d : Int) + 1 := Z4w (by omega) (by omega)
  have e := Zw1 (k := k) (f := Z6p k) (F := fun y b => Z6k l n y b) (x := wk 5000 l x) (d := (d : Int)) (l := l) (Z6h hy) hwd (fun z hz b h0 h4 => by
   have := fill k (d + 1) l z b hl ha (Z98 hy hz) (by omega) (by omega) h0 h4
   rw [show ((d + 1 : Nat) : Int) = (d : Int) + 1 by omega, show 41 - (d + 1) = n by omega] at this
   refine ⟨this, fun ht => ?_⟩
   rcases e2 : Z6k l n z b with ⟨b', y, t⟩
   rw [e2] at ht
   have ht : t = true := ht
   subst ht
   obtain ⟨q1, q2⟩ := Zij n e2
   exact ⟨q1, by show b' ≤ b; omega⟩) k 0 (wk 5000 l x).gi (wk 5000 l x).gn (wk 5000 l x).gj [] (b - 1) (by omega) (by have := Z6h hy; omega) rfl (by omega) (by omega)
  rw [show ((0 : Nat) : Int) = 0 from rfl, List.drop_zero] at e
  rw [e, hn, Z6k, if_neg c1]
  generalize Z6k.fillsP (fun y b => Z6k l n y b) (wk 5000 l x).ga (b - 1) = r
  obtain ⟨b', ys, t⟩ := r
  cases t with
  | false => rfl
  | true => rfl
theorem Z12w {x : Gt} (hx : x.ok) {l : List Gt} (h1 : l.length ≤ 400) (h2 : ∀ y ∈ l, y.ok) : (Gt.mk x.gi x.gn x.gj l).ok := by
 cases hx with
 | mk a b c m h3 h4 h5 h6 h7 => exact .mk a b c l h3 h4 h5 (by rw [Zl]; omega) h2
theorem Znb {l : List Gt} (ha : AllB l) : ∀ (n : Nat) {x : Gt} {b b' : Int} {o : Gt}, BigT x → Z6k l n x b = (b', o, true) → o.ok
 | 0, x, b, b', o, hx, h => by rw [Z6k] at h; cases h
 | n + 1, x, b, b', o, hx, h => by
  rw [Z6k] at h
  split at h
  ·cases h
  ·split at h
   ·rename_i b2 ys e
    cases h
    have hy : BigT (wk 5000 l x) := Zpz ha 5000 x hx
    have key : ∀ (xs : List Gt) (b b' : Int) (ys : List Gt), (∀ z ∈ xs, BigT z) → Z6k.fillsP (fun y b => Z6k l n y b) xs b = (b', ys, true) → ys.length = xs.length ∧ ∀ y ∈ ys, y.ok := by
     intro xs
     induction xs with
     | nil => intro b b' ys hq h; rw [Z6k.fillsP] at h; cases h; exact ⟨rfl, fun y hy => by cases hy⟩
     | cons z xs ih =>
      intro b b' ys hq h
      rw [Z6k.fillsP] at h
      rcases e : Z6k l n z b with ⟨b1, y, t⟩
      simp only [e] at h
      cases t with
      | false => cases h
      | true =>
       simp only at h
       rcases e2 : Z6k.fillsP (fun y b => Z6k l n y b) xs b1 with ⟨b2, zs, t⟩
       rw [e2] at h
       cases h
       obtain ⟨h1, h2⟩ := ih _ _ _ (fun z hz => hq z (List.mem_cons_of_mem _ hz)) e2
       refine ⟨by simp [h1], fun w hw => ?_⟩
       rcases List.mem_cons.1 hw with rfl | hw
       ·exact Znb ha n (hq z (List.mem_cons_self ..)) e
       ·exact h2 w hw
    obtain ⟨h1, h2⟩ := key _ _ _ _ (fun z hz => Z98 hy hz) e
    exact Z12w hy.1 (by have := Z6h hy; omega) h2
   ·cases h
theorem Z11b {k : Nat} (hk : maxLen + 1000000 < k) {x : Gt} (h : nT x ≤ 1000) : maxLen + 2 * nT x + 2 < k := by
 have : 2 * nT x + 2 ≤ 1000000 := by omega
 omega
def fP (l : List Gt) (x : Gt) : Gt × Bool := match Z6k l 40 x 400 with
 | (_, o, true) => if gT 1 o = true then (o, true) else (Z0, false)
 | (_, _, false) => (Z0, false)
theorem Zpx : BigT Z0 := ⟨Zi2 (by omega) (by decide) (by omega) (by simp) (fun x hx => by cases hx), (by
 rw [Z5v]
 show nsum nT [] ≤ 400
 simp [nsum]), .mk (by decide) (fun x hx => by cases hx)⟩
theorem Zw3 {l : List Gt} (ha : AllB l) {x : Gt} (hx : BigT x) : ((fP l x).2 = false ∧ (fP l x).1 = Z0) ∨ ∃ b' o, Z6k l 40 x 400 = (b', o, true) ∧ fP l x = (o, true) ∧ gT 1 o = true ∧ nT o ≤ 399 ∧ o.ok ∧ 0 ≤ b' := by
 unfold fP
 rcases e : Z6k l 40 x 400 with ⟨b', o, t⟩
 cases t with
 | false => exact .inl ⟨rfl, rfl⟩
 | true =>
  obtain ⟨h1, h2⟩ := Zij _ e
  simp only
  by_cases hg : gT 1 o = true
  ·rw [if_pos hg]
   exact .inr ⟨b', o, rfl, rfl, hg, by omega, Znb ha _ hx e, h1⟩
  ·rw [if_neg hg]
   exact .inl ⟨rfl, rfl⟩
theorem Zly {l : List Gt} (ha : AllB l) {x : Gt} (hx : BigT x) : BigT (fP l x).1 := by
 rcases Zw3 ha hx with ⟨_, h⟩ | ⟨b', o, _, h, hg, h2, h3, _⟩
 ·rw [h]; exact Zpx
 ·rw [h]; exact ⟨h3, (by show nT o ≤ 400; omega), Z10w _ _ hg⟩
theorem Zjw {k : Nat} (hk : maxLen + 1000000 < k) {l : List Gt} (hl : l.length ≤ 1048576) (ha : AllB l) {x : Gt} (hx : BigT x) : Z64 k l x = some (fP l x) := by
 unfold Z64 fP
 have e := fill k 1 l x 400 hl ha hx (by decide) (Nat.lt_of_le_of_lt (Nat.add_le_add_left (by decide) _) hk) (by omega) (by omega)
 rw [show ((1 : Nat) : Int) = 1 from rfl, show 41 - 1 = 40 from rfl] at e
 rw [e]
 simp only [obs]
 rcases e2 : Z6k l 40 x 400 with ⟨b', o, t⟩
 cases t with
 | false => rfl
 | true =>
  obtain ⟨h1, h2⟩ := Zij _ e2
  have ho := Znb ha _ hx e2
  rw [if_neg (by simp), Zjs (Z11b hk (by show nT o ≤ 1000; omega)) ho]
  simp only [obs]
  unfold tOk
  rw [decide_eq_true (by show 1 + nT o ≤ 400; omega), Bool.true_and]
  show (if (!gT 1 o) = true then _ else _) = _
  cases hg : gT 1 o with
  | false => rfl
  | true => rfl
theorem Zzj {k : Nat} {f : Gt → Int → Option Bool} {l : List Gt} {v : Int} (hl : l.length ≤ 400) (hf : ∀ y ∈ l, ∃ b, f y v = some b) : ∀ (m j : Nat), j ≤ l.length → l.length - j < m →
  ∃ o, Zf k f l v m (j : Int) = some o
 | 0, j, h1, h2 => by omega
 | m + 1, j, h1, h2 => by
  unfold Zf
  have hm : l.length ≤ maxLen := by rw [Zl]; omega
  by_cases hlt : j < l.length
  ·obtain ⟨b, e⟩ := hf _ (List.getElem_mem hlt)
   rw [if_pos (by simpa using hlt), Z4c hlt, obs]
   unfold Zib
   rw [e, obs, obs]
   cases b with
   | true => rw [if_pos rfl]; exact ⟨_, rfl⟩
   | false =>
    rw [if_neg (by decide), Z3v hlt hm]
    exact Zzj hl hf m (j + 1) (by omega) (by omega)
  ·rw [if_neg (by simpa using hlt)]
   exact ⟨_, rfl⟩
theorem hasT : ∀ (k : Nat) (x : Gt) (v : Int), BigT x → maxLen + 2 * nT x + 2 < k → ∃ b, Zfp k x v = some b
 | 0, x, v, hx, hk => by omega
 | k + 1, x, v, hx, hk => by
  have hM := Zl
  have hn := Z5v x
  unfold Zfp
  by_cases c : x.gi = 1
  ·rw [if_pos (by simpa using c)]
   exact ⟨_, rfl⟩
  ·rw [if_neg (by simpa using c)]
   unfold Zs Zw
   obtain ⟨o, e⟩ := Zzj (k := k) (f := Zfp k) (l := x.ga) (v := v) (Z6h hx) (fun y hy => by
    have := Z7q (n := nT) hy
    exact hasT k y v (Z98 hx hy) (by omega)) k 0 (by omega) (by have := Z6h hx; omega)
   rw [show ((0 : Nat) : Int) = 0 from rfl] at e
   rw [e]
   cases o <;> exact ⟨_, rfl⟩
theorem kk1 {k : Nat} (hk : maxLen + 1000000 < k) : maxLen < k := Nat.lt_of_le_of_lt (Nat.le_add_right _ _) hk
theorem Zhm {x : Gt} {d : Int} (h : gT d x = true) {y : Gt} (hy : y ∈ x.ga) : gT (d + 1) y = true := by
 rw [Zti] at h
 simp only [Bool.and_eq_true] at h
 have h := h.2.2
 revert hy h
 generalize x.ga = l
 intro hy h
 induction l with
 | nil => cases hy
 | cons z l ih =>
  rw [gTs] at h
  simp only [Bool.and_eq_true] at h
  rcases List.mem_cons.1 hy with rfl | hy
  ·exact h.1
  ·exact ih hy h.2
theorem Zhc {x : Gt} (h : tOk x = true) : gT 1 x = true ∧ nT x ≤ 399 := by
 unfold tOk at h
 simp only [Bool.and_eq_true, decide_eq_true_eq] at h
 exact ⟨h.2, by omega⟩
theorem Zd2 {x : Gt} (hx : x.ok) (h : tOk x = true) : BigT x := ⟨hx, by have := (Zhc h).2; omega, Z10w _ _ (Zhc h).1⟩
def MidT (x : Gt) : Prop := x.ok ∧ nT x ≤ 3000
theorem Zvj {k : Nat} (hk : maxLen + 1000000 < k) {x : Gt} (h : nT x ≤ 3000) : maxLen + 2 * nT x + 2 < k := by
 have : 2 * nT x + 2 ≤ 1000000 := by omega
 omega
theorem BigT.mid {x : Gt} (h : BigT x) : MidT x := ⟨h.1, by have := h.2.1; omega⟩
theorem Zgu {k : Nat} (hk : maxLen + 1000000 < k) {x : Gt} (h : MidT x) : Z3u k x = some (tOk x) := Zjs (Zvj hk h.2) h.1
theorem Zb5 {k : Nat} (hk : maxLen + 1000000 < k) {x : Gt} (h : MidT x) : Z2m k x = some x := Zyg (Zvj hk h.2) (by have := h.2; omega)
theorem Zye : @Z4m = @Z2m := by kernel_rfl
theorem Zsf (k : Nat) {l : List Int} (x : Int) (hl : l.length ≤ maxLen) : ∀ (m j : Nat), j ≤ l.length → l.length - j < m → ∃ o, Z26 k l x m (j : Int) = some o ∧ ∀ i, o = .ret i → 0 ≤ i ∧ i < (l.length : Int)
 | 0, j, h1, h2 => by omega
 | m + 1, j, h1, h2 => by
  unfold Z26
  by_cases hlt : j < l.length
  ·rw [if_pos (by simpa using hlt), Z4c hlt, obs]
   split
   ·exact ⟨_, rfl, fun i h => by cases h; omega⟩
   ·rw [Z3v hlt hl]
    exact Zsf k x hl m (j + 1) (by omega) (by omega)
  ·rw [if_neg (by simpa using hlt)]
   exact ⟨_, rfl, fun i h => by cases h⟩
theorem index {k : Nat} (hk : maxLen < k) {l : List Int} (x : Int) (hl : l.length ≤ maxLen) : ∃ i, Z24 k l x = some i ∧ -1 ≤ i ∧ i < (l.length : Int) + 1 := by
 unfold Z24
 obtain ⟨o, e, h⟩ := Zsf k x hl k 0 (by omega) (by omega)
 rw [show ((0 : Nat) : Int) = 0 from rfl] at e
 rw [e, obs]
 cases o with
 | ret i => have := h i rfl; exact ⟨_, rfl, by omega, by omega⟩
 | done u => exact ⟨_, rfl, by omega, by omega⟩
theorem Zmf {k : Nat} {x : Gt} {f : List Int → Gt → Option (List Int)} (hx : x.ga.length ≤ maxLen) (hf : ∀ y ∈ x.ga, ∀ s, s.length + 1 + nT y ≤ 100000 → ∃ s', f s y = some s' ∧ s'.length ≤ s.length + 1 + nT y) :
  ∀ (m j : Nat) (s : List Int), j ≤ x.ga.length → x.ga.length - j < m → s.length + nsum nT (x.ga.drop j) ≤ 100000 →
   ∃ s', Z7a k f x m s (j : Int) = some (.done s') ∧ s'.length ≤ s.length + nsum nT (x.ga.drop j)
 | 0, j, s, h1, h2, h3 => by omega
 | m + 1, j, s, h1, h2, h3 => by
  unfold Z7a
  by_cases hlt : j < x.ga.length
  ·rw [Zjk hlt] at h3 ⊢
   obtain ⟨s1, e1, g1⟩ := hf _ (List.getElem_mem hlt) s (by omega)
   rw [if_pos (by simpa using hlt), Z4c hlt, obs, e1, obs, Z3v hlt hx]
   obtain ⟨s2, e2, g2⟩ := Zmf (k := k) hx hf m (j + 1) s1 (by omega) (by omega) (by omega)
   exact ⟨s2, e2, by omega⟩
  ·rw [if_neg (by simpa using hlt)]
   exact ⟨s, rfl, by omega⟩
theorem Zx4 : ∀ (k : Nat) (x : Gt), BigT x → maxLen + 2 * nT x + 2 < k → ∀ s : List Int, s.length + 1 + nT x ≤ 100000 → ∃ s', Z3m k s x = some s' ∧ s'.length ≤ s.length + 1 + nT x
 | 0, x, hx, hk, s, hs => by omega
 | k + 1, x, hx, hk, s, hs => by
  have hM := Zl
  have hn := Z5v x
  have hkk := Z6h hx
  have J1 : ∀ s : List Int, s.length + nT x ≤ 100000 → ∃ s', Z7c k (Z3m k) x s = some s' ∧ s'.length ≤ s.length + nT x := fun s hs => by
   unfold Z7c
   obtain ⟨s', e, h⟩ := Zmf (k := k) (f := Z3m k) (x := x) (by omega) (fun y hy s hs => by
    have := Z7q (n := nT) hy
    exact Zx4 k y (Z98 hx hy) (by omega) s hs) k 0 s (by omega) (by omega) (by rw [List.drop_zero]; omega)
   rw [show ((0 : Nat) : Int) = 0 from rfl] at e
   rw [e, obs]
   rw [List.drop_zero] at h
   exact ⟨s', rfl, by omega⟩
  unfold Z3m
  split
  ·obtain ⟨i, e, _⟩ := index (k := k) (by omega) x.gj (l := s) (by omega)
   unfold Z2u
   rw [e, obs, obs]
   unfold Z7b
   split
   ·rw [if_pos (by simp; omega)]
    obtain ⟨s', e, h⟩ := J1 (s ++ [x.gj]) (by simp; omega)
    exact ⟨s', e, by simp at h; omega⟩
   ·obtain ⟨s', e, h⟩ := J1 s (by omega)
    exact ⟨s', e, by omega⟩
  ·unfold Z7b
   rw [if_neg (by decide)]
   obtain ⟨s', e, h⟩ := J1 s (by omega)
   exact ⟨s', e, by omega⟩
theorem Zua {k : Nat} (hk : maxLen + 1000000 < k) {x : Gt} (hx : BigT x) : ∃ s, Za4 k x = some s ∧ s.length ≤ 401 := by
 unfold Za4
 have h2 := hx.2.1
 obtain ⟨s, e, h⟩ := Zx4 k x hx (Z11b hk (by omega)) [] (by simp; omega)
 rw [e]
 exact ⟨s, rfl, by simp at h; omega⟩
theorem Z11f (x : Int) : -9223372036854775808 ≤ wr.i64 x ∧ wr.i64 x ≤ 9223372036854775807 := by
 unfold wr.i64 IntKind.wrap
 simp [IntKind.signed, IntKind.bits]
 omega
def Like (x y : Gt) : Prop := y.ok ∧ nT y = nT x ∧ (Nm x → Nm y)
theorem Like.big {x y : Gt} (h : Like x y) (hx : BigT x) : BigT y := ⟨h.1, by rw [h.2.1]; exact hx.2.1, h.2.2 hx.2.2⟩
theorem Like.mk {x : Gt} (hx : x.ok) (n : Int) (h1 : -9223372036854775808 ≤ n ∧ n ≤ 9223372036854775807) {o : List Gt} (h2 : o.length = x.ga.length) (h3 : ∀ z ∈ o, z.ok) (h4 : nsum nT o = nsum nT x.ga) (h5 : Nm x → ∀ z ∈ o, Nm z) : Like x (.mk x.gi x.gn n o) := by
 refine ⟨?_, ?_, fun h => .mk h.name (h5 h)⟩
 ·have hk := Z10d hx
  have hn := Zv5 hx
  have hl := (Zjg hx).1
  exact .mk _ _ _ _ hk hn (by unfold okI; exact h1) (by omega) h3
 ·rw [Z5v, Z5v x, Zcg, h4]
theorem Zuw {k : Nat} {f : Gt → Int → Option Gt} {x : Gt} {v : Int} (hx : x.ga.length ≤ 10000) (hf : ∀ y ∈ x.ga, ∃ z, f y v = some z ∧ Like y z) : ∀ (m j : Nat) (a : Int) (s : ByteArray) (c : Int) (o : List Gt),
  j ≤ x.ga.length → x.ga.length - j < m → o.length = j → (∀ z ∈ o, z.ok) → nsum nT o + nsum nT (x.ga.drop j) = nsum nT x.ga → (Nm x → ∀ z ∈ o, Nm z) →
  ∃ o', Z1r k f x v m (j : Int) (.mk a s c o) = some (.done (.mk a s c o')) ∧ o'.length = x.ga.length ∧ (∀ z ∈ o', z.ok) ∧ nsum nT o' = nsum nT x.ga ∧ (Nm x → ∀ z ∈ o', Nm z)
 | 0, j, a, s, c, o, h1, h2, h3, h4, h5, h6 => by omega
 | m + 1, j, a, s, c, o, h1, h2, h3, h4, h5, h6 => by
  have hM := Zl
  unfold Z1r
  by_cases hlt : j < x.ga.length
  ·obtain ⟨z, e, g1, g2, g3⟩ := hf _ (List.getElem_mem hlt)
   rw [if_pos (by simpa using hlt), Z4c hlt, obs, e, obs, Zcg, if_pos (by simp; omega), Z3v hlt (by omega), Zig, Zif, Zmz]
   rw [Zjk hlt] at h5
   refine Zuw hx hf m (j + 1) a s c (o ++ [z]) (by omega) (by omega) (by simp; omega) (fun y hy => ?_) (by rw [Zer]; simp only [nsum]; omega) (fun hn y hy => ?_)
   ·rcases List.mem_append.1 hy with hy | hy
    ·exact h4 y hy
    ·rw [List.mem_singleton.1 hy]; exact g1
   ·rcases List.mem_append.1 hy with hy | hy
    ·exact h6 hn y hy
    ·rw [List.mem_singleton.1 hy]; exact g3 (hn.kid (List.getElem_mem hlt))
  ·rw [if_neg (by simpa using hlt)]
   rw [List.drop_of_length_le (by omega)] at h5
   exact ⟨o, rfl, by omega, h4, by simpa [nsum] using h5, h6⟩
theorem renS : ∀ (k : Nat) (x : Gt) (v : Int), x.ok → nT x ≤ 3000 → maxLen + 2 * nT x + 2 < k → ∃ y, Zc k x v = some y ∧ Like x y
 | 0, x, v, hx, hb, hk => by omega
 | k + 1, x, v, hx, hb, hk => by
  have hM := Zl
  have hn := Z5v x
  have hl := Zar nT x.ga
  have J : ∀ n : Int, (-9223372036854775808 ≤ n ∧ n ≤ 9223372036854775807) → ∃ y, Z1s k (Zc k) x v (.mk x.gi x.gn n []) = some y ∧ Like x y := fun n h => by
   unfold Z1s
   obtain ⟨o, e, g1, g2, g3, g4⟩ := Zuw (k := k) (f := Zc k) (x := x) (v := v) (by omega) (fun y hy => by
    have := Z7q (n := nT) hy
    exact renS k y v (Zs1 hx hy) (by omega) (by omega)) k 0 x.gi x.gn n [] (by omega) (by omega) rfl (fun z hz => by cases hz) (by simp [nsum]) (fun _ z hz => by cases hz)
   rw [show ((0 : Nat) : Int) = 0 from rfl] at e
   rw [e, obs]
   exact ⟨_, rfl, Like.mk hx n h g1 g2 g3 g4⟩
  unfold Zc
  split
  ·unfold Zan
   rw [obs]
   exact J _ (Z11f _)
  ·exact J _ (Zza hx)
theorem Zux {k : Nat} {f : Gt → Int → List Int → Option Gt} {x : Gt} {v : Int} {q : List Int} (hx : x.ga.length ≤ 10000) (hf : ∀ y ∈ x.ga, ∃ z, f y v q = some z ∧ Like y z) : ∀ (m j : Nat) (a : Int) (s : ByteArray) (c : Int) (o : List Gt),
  j ≤ x.ga.length → x.ga.length - j < m → o.length = j → (∀ z ∈ o, z.ok) → nsum nT o + nsum nT (x.ga.drop j) = nsum nT x.ga → (Nm x → ∀ z ∈ o, Nm z) →
  ∃ o', Z21 k f x v q m (j : Int) (.mk a s c o) = some (.done (.mk a s c o')) ∧ o'.length = x.ga.length ∧ (∀ z ∈ o', z.ok) ∧ nsum nT o' = nsum nT x.ga ∧ (Nm x → ∀ z ∈ o', Nm z)
 | 0, j, a, s, c, o, h1, h2, h3, h4, h5, h6 => by omega
 | m + 1, j, a, s, c, o, h1, h2, h3, h4, h5, h6 => by
  have hM := Zl
  unfold Z21
  by_cases hlt : j < x.ga.length
  ·obtain ⟨z, e, g1, g2, g3⟩ := hf _ (List.getElem_mem hlt)
   rw [if_pos (by simpa using hlt), Z4c hlt, obs, e, obs, Zcg, if_pos (by simp; omega), Z3v hlt (by omega), Zig, Zif, Zmz]
   rw [Zjk hlt] at h5
   refine Zux hx hf m (j + 1) a s c (o ++ [z]) (by omega) (by omega) (by simp; omega) (fun y hy => ?_) (by rw [Zer]; simp only [nsum]; omega) (fun hn y hy => ?_)
   ·rcases List.mem_append.1 hy with hy | hy
    ·exact h4 y hy
    ·rw [List.mem_singleton.1 hy]; exact g1
   ·rcases List.mem_append.1 hy with hy | hy
    ·exact h6 hn y hy
    ·rw [List.mem_singleton.1 hy]; exact g3 (hn.kid (List.getElem_mem hlt))
  ·rw [if_neg (by simpa using hlt)]
   rw [List.drop_of_length_le (by omega)] at h5
   exact ⟨o, rfl, by omega, h4, by simpa [nsum] using h5, h6⟩
theorem renF : ∀ (k : Nat) (x : Gt) (v : Int) (q : List Int), q.length ≤ 100000 → x.ok → nT x ≤ 3000 → maxLen + 2 * nT x + 2 < k → ∃ y, Zh k x v q = some y ∧ Like x y
 | 0, x, v, q, hq, hx, hb, hk => by omega
 | k + 1, x, v, q, hq, hx, hb, hk => by
  have hM := Zl
  have hn := Z5v x
  have hl := Zar nT x.ga
  have J : ∀ n : Int, (-9223372036854775808 ≤ n ∧ n ≤ 9223372036854775807) → ∃ y, Z22 k (Zh k) x v q (.mk x.gi x.gn n []) = some y ∧ Like x y := fun n h => by
   unfold Z22
   obtain ⟨o, e, g1, g2, g3, g4⟩ := Zux (k := k) (f := Zh k) (x := x) (v := v) (q := q) (by omega) (fun y hy => by
    have := Z7q (n := nT) hy
    exact renF k y v q hq (Zs1 hx hy) (by omega) (by omega)) k 0 x.gi x.gn n [] (by omega) (by omega) rfl (fun z hz => by cases hz) (by simp [nsum]) (fun _ z hz => by cases hz)
   rw [show ((0 : Nat) : Int) = 0 from rfl] at e
   rw [e, obs]
   exact ⟨_, rfl, Like.mk hx n h g1 g2 g3 g4⟩
  unfold Zh
  split
  ·unfold Ze0
   obtain ⟨i, e, _⟩ := index (k := k) (by omega) x.gj (l := q) (by omega)
   rw [e, obs, obs]
   exact J _ (Z11f _)
  ·exact J _ (Zza hx)
theorem Zq4 {k : Nat} (hk : maxLen + 1000000 < k) {x : Gt} (v : Int) (hx : MidT x) : ∃ y, Z80 k x v = some y ∧ Like x y := by
 have self : Like x x := ⟨hx.1, rfl, id⟩
 unfold Z80
 rw [Zgu hk hx, obs, Zb5 hk hx, obs]
 cases ht : tOk x with
 | false => rw [if_pos (by rfl)]; exact ⟨x, rfl, self⟩
 | true =>
  rw [if_neg (by decide)]
  obtain ⟨s, e, _⟩ := Zua hk (Zd2 hx.1 ht)
  rw [e, obs]
  split
  ·exact ⟨x, rfl, self⟩
  rw [Zfa, obs]
  split
  ·exact ⟨x, rfl, self⟩
  obtain ⟨y, e, h⟩ := renS k x v hx.1 hx.2 (Zvj hk hx.2)
  rw [e, obs, Zgu hk ⟨h.1, by rw [h.2.1]; exact hx.2⟩, obs]
  split
  ·exact ⟨x, rfl, self⟩
  ·exact ⟨y, rfl, h⟩
theorem Zzm {k : Nat} (hk : maxLen + 1000000 < k) {x : Gt} (v : Int) (hx : BigT x) : ∃ y, Zc2 k x v = some y ∧ BigT y := by
 unfold Zc2
 obtain ⟨s, e, h⟩ := Zua hk hx
 rw [e, obs]
 obtain ⟨y, e, g⟩ := renF k x v s (by omega) hx.1 hx.mid.2 (Zvj hk hx.mid.2)
 rw [e, obs]
 exact ⟨y, rfl, g.big hx⟩
def Zx9 (x : Gt) : Prop := ∃ d, gT d x = true
theorem Zx9.num {x : Gt} (h : Zx9 x) (hk : x.gi = 1) : 0 ≤ x.gj ∧ x.gj ≤ 99999 := by
 obtain ⟨d, h⟩ := h
 rw [Zti] at h
 simp only [Bool.and_eq_true] at h
 have h1 := h.2.1
 unfold one at h1
 rw [if_pos hk] at h1
 simp only [Bool.and_eq_true] at h1
 have := h1.1
 unfold inR at this
 exact of_decide_eq_true this
mutual
def upT : Gt → Int
 | .mk a _ c l => max (if a = 1 then c + 1 else 0) (upTs l)
def upTs : List Gt → Int
 | [] => 0
 | x :: l => max (upT x) (upTs l)
end
theorem Z11i (x : Gt) : upT x = max (if x.gi = 1 then x.gj + 1 else 0) (upTs x.ga) := by cases x; rw [upT]; rfl
theorem Zl9 : ∀ l : List Gt, 0 ≤ upTs l
 | [] => by rw [upTs]; omega
 | x :: l => by rw [upTs]; have := Zl9 l; omega
theorem Zq2 {k : Nat} {l : List Gt} {f : List Gt → Option Int} (hl : l.length ≤ maxLen) (hs : ∀ x ∈ l, x.gi = 1 → 0 ≤ x.gj ∧ x.gj ≤ 99999) (hf : ∀ x ∈ l, f x.ga = some (upTs x.ga) ∧ upTs x.ga ≤ 100000) :
  ∀ (m j : Nat) (b : Int), j ≤ l.length → l.length - j < m → 0 ≤ b → b ≤ 100000 → Z5n k f l m b (j : Int) = some (.done (max b (upTs (l.drop j)))) ∧ max b (upTs (l.drop j)) ≤ 100000
 | 0, j, b, h1, h2, h3, h4 => by omega
 | m + 1, j, b, h1, h2, h3, h4 => by
  unfold Z5n
  by_cases hlt : j < l.length
  ·obtain ⟨e, g⟩ := hf _ (List.getElem_mem hlt)
   have g0 := Zl9 l[j].ga
   rw [if_pos (by simpa using hlt), Z4c hlt, obs, e, obs, obs, Z3v hlt hl, List.drop_eq_getElem_cons hlt, upTs, Z11i]
   generalize upTs l[j].ga = q at g g0
   by_cases hc : l[j].gi = 1
   ·have hv := hs _ (List.getElem_mem hlt) hc
    rw [if_pos (by simpa using hc), if_pos hc, Z4w (by omega) (by omega)]
    have z : (if q > (if l[j].gj + 1 > b then l[j].gj + 1 else b) then q else (if l[j].gj + 1 > b then l[j].gj + 1 else b)) = max b (max (l[j].gj + 1) q) := by split <;> split <;> omega
    rw [z]
    have := Zq2 (k := k) hl hs hf m (j + 1) (max b (max (l[j].gj + 1) q)) (by omega) (by omega) (by omega) (by omega)
    rw [show max (max b (max (l[j].gj + 1) q)) (upTs (l.drop (j + 1))) = max b (max (max (l[j].gj + 1) q) (upTs (l.drop (j + 1)))) by omega] at this
    exact this
   ·rw [if_neg (by simpa using hc), if_neg hc]
    have z : (if q > b then q else b) = max b (max 0 q) := by split <;> omega
    rw [z]
    have := Zq2 (k := k) hl hs hf m (j + 1) (max b (max 0 q)) (by omega) (by omega) (by omega) (by omega)
    rw [show max (max b (max 0 q)) (upTs (l.drop (j + 1))) = max b (max (max 0 q) (upTs (l.drop (j + 1)))) by omega] at this
    exact this
  ·rw [if_neg (by simpa using hlt), List.drop_of_length_le (by omega), upTs]
   rw [show max b 0 = b by omega]
   exact ⟨rfl, h4⟩
theorem Z11h : ∀ (k : Nat) (l : List Gt), maxLen + 2 * nsum nT l + 2 < k → nsum nT l ≤ 1048576 → (∀ x ∈ l, Zx9 x) → Z2v k l = some (upTs l) ∧ upTs l ≤ 100000
 | 0, l, h, _, _ => by omega
 | k + 1, l, hw, hn, hs => by
  have hlen := Zar nT l
  have hm := Zl
  unfold Z2v
  obtain ⟨e, h⟩ := Zq2 (k := k) (f := Z2v k) (l := l) (by omega) (fun x hx => (hs x hx).num) (fun x hx => by
   have := Z7q (n := nT) hx
   have hk := Z5v x
   exact Z11h k x.ga (by omega) (by omega) (fun y hy => by
    obtain ⟨d, hd⟩ := hs x hx
    exact ⟨d + 1, Zhm hd hy⟩)) k 0 0 (by omega) (by omega) (by omega) (by omega)
  have h0 := Zl9 l
  rw [List.drop_zero, show max 0 (upTs l) = upTs l by omega] at e h
  rw [show ((0 : Nat) : Int) = 0 from rfl] at e
  rw [e, obs]
  exact ⟨rfl, h⟩
theorem Zzv {k : Nat} (hk : maxLen + 1000000 < k) {l : List Gt} (hl : nsum nT l ≤ 3000) (h : ∀ x ∈ l, Zx9 x) : Z2v k l = some (upTs l) ∧ upTs l ≤ 100000 :=
 Z11h k l (by have : 2 * nsum nT l + 2 ≤ 1000000 := (by omega); omega) (by omega) h
theorem upTo {k : Nat} (hk : maxLen + 1000000 < k) {l : List Gt} (hl : nsum nT l ≤ 3000) (h : ∀ x ∈ l, Zx9 x) : ∃ r, Z2v k l = some r ∧ 0 ≤ r ∧ r ≤ 100000 := ⟨_, (Zzv hk hl h).1, Zl9 l, (Zzv hk hl h).2⟩
def has (s : List ByteArray) (x : ByteArray) : Bool := s.any (fun y => sEq x y)
theorem Zn6 {s : List ByteArray} {x : ByteArray} : has s x = true ↔ x ∈ s := by
 unfold has
 rw [List.any_eq_true]
 constructor
 ·rintro ⟨y, hy, e⟩; rw [Zax.1 e]; exact hy
 ·intro h; exact ⟨x, h, Z6u x⟩
theorem Z13h {s : List ByteArray} {x : ByteArray} (h : has s x = false) : ¬ x ∈ s := fun hm => by rw [Zn6.2 hm] at h; cases h
theorem Z131 (x y : ByteArray) : sEq x y = sEq y x := by
 cases h : sEq x y with
 | true => rw [Zax.1 h, Z6u]
 | false =>
  cases h2 : sEq y x with
  | false => rfl
  | true => rw [Zax.1 h2, Z6u] at h; cases h
theorem Znx (k : Nat) {l : List ByteArray} (x : ByteArray) (hl : l.length ≤ maxLen) : ∀ (m j : Nat), j ≤ l.length → l.length - j < m →
  ∃ o, Z1k k l x m (j : Int) = some o ∧ (match o with | .ret i => 0 ≤ i ∧ x ∈ l.drop j | .done _ => ¬ x ∈ l.drop j)
 | 0, j, h1, h2 => by omega
 | m + 1, j, h1, h2 => by
  unfold Z1k
  by_cases hlt : j < l.length
  ·rw [if_pos (by simpa using hlt), Z4c hlt, List.drop_eq_getElem_cons hlt]
   simp only [Option.bind_some]
   cases e : sEq x l[j] with
   | true =>
    rw [if_pos rfl]
    exact ⟨_, rfl, by omega, by rw [List.mem_cons]; exact .inl (Zax.1 e)⟩
   | false =>
    rw [if_neg (by simp), Z3v hlt hl]
    obtain ⟨o, h3, h4⟩ := Znx k x hl m (j + 1) (by omega) (by omega)
    refine ⟨o, h3, ?_⟩
    cases o with
    | ret i => exact ⟨h4.1, List.mem_cons_of_mem _ h4.2⟩
    | done u =>
     intro hm
     rcases List.mem_cons.1 hm with hm | hm
     ·rw [hm, Z6u] at e; cases e
     ·exact h4 hm
  ·rw [if_neg (by simpa using hlt), List.drop_of_length_le (by omega)]
   exact ⟨_, rfl, by simp⟩
theorem Znz {k : Nat} {l : List ByteArray} (x : ByteArray) (hl : l.length ≤ maxLen) (hk : maxLen < k) : Zy k l x = some (has l x) := by
 unfold Zy Z2h
 obtain ⟨o, h1, h2⟩ := Znx k x hl k 0 (by omega) (by omega)
 rw [show ((0 : Nat) : Int) = 0 from rfl] at h1
 rw [h1]
 rw [List.drop_zero] at h2
 cases o with
 | ret i => simp [h2.1, Zn6.2 h2.2]
 | done u =>
  simp only [Option.bind_some]
  have : ¬ x ∈ l := h2
  cases h : has l x with
  | false => simp
  | true => exact absurd (Zn6.1 h) this
def ctl : List ByteArray := [(bs [116, 114, 117, 101, 47, 48]), (bs [102, 97, 105, 108, 47, 48]), (bs [33, 47, 48]), (bs [44, 47, 50]), (bs [59, 47, 50]), (bs [45, 62, 47, 50]), (bs [92, 43, 47, 49]), (bs [99, 97, 108, 108, 47, 49]), (bs [99, 97, 108, 108, 47, 50]), (bs [99, 97, 108, 108, 47, 51]), (bs [99, 97, 116, 99, 104, 47, 51]), (bs [116, 104, 114, 111, 119, 47, 49]), (bs [61, 47, 50]), (bs [92, 61, 47, 50]), (bs [61, 61, 47, 50]), (bs [105, 115, 47, 50]), (bs [60, 47, 50]), (bs [61, 58, 61, 47, 50]), (bs [118, 97, 114, 47, 49]), (bs [97, 116, 111, 109, 47, 49]), (bs [119, 114, 105, 116, 101, 47, 49]), (bs [97, 115, 115, 101, 114, 116, 122, 47, 49]), (bs [114, 101, 116, 114, 97, 99, 116, 47, 49]), (bs [58, 45, 47, 50]), (bs [58, 45, 47, 49]), (bs [45, 45, 62, 47, 50])]
def decB (n : Nat) : ByteArray := ⟨(Lib.decDigits n).toArray⟩
theorem Z89 {n : Nat} (h : n < 10) : decB n = bs [UInt8.ofNat (48 + n)] := by
 unfold decB
 rw [Lib.decDigits, dif_pos h]; rfl
theorem Znf {n : Nat} (h : ¬ n < 10) : decB n = decB (n / 10) ++ bs [UInt8.ofNat (48 + n % 10)] := by
 unfold decB
 rw [Lib.decDigits, dif_neg h]
 apply ByteArray.ext
 simp [bs]
theorem Zg4 : ∀ (j n : Nat), n < 10 ^ (j + 1) → (decB n).size ≤ j + 1
 | 0, n, h => by rw [Z89 (by simpa using h)]; exact Nat.le_refl _
 | j + 1, n, h => by
  by_cases c : n < 10
  ·rw [Z89 c, show (bs [UInt8.ofNat (48 + n)]).size = 1 from rfl]; omega
  ·have := Zg4 j (n / 10) (by rw [Nat.pow_succ] at h; omega)
   rw [Znf c, ByteArray.size_append, show (bs [UInt8.ofNat (48 + n % 10)]).size = 1 from rfl]; omega
theorem Zvr {k : Nat} {n : Nat} (h : n ≤ 999999999) : Z5r k (n : Int) = some (decB n) := by
 unfold Z5r Z9d Lib.itoa decB
 rw [if_pos (by omega), obs, if_neg (by omega), Int.toNat_natCast]
theorem Z10s {k : Nat} {n : Nat} (h : n ≤ 999999999) (h0 : 0 < n) : Z5r k (-(n : Int)) = some (bs [45] ++ decB n) := by
 unfold Z5r Z9d Lib.itoa decB
 rw [if_pos (by omega), obs, if_pos (by omega), Int.natAbs_neg, Int.natAbs_natCast]
 refine congrArg some ?_
 apply ByteArray.ext
 simp [bs]
theorem Zhl {k : Nat} (hk : maxLen < k) (s : ByteArray) : Z9n k s = some (has ctl s) := by
 unfold Z9n
 show (Zy k ctl s).bind _ = _
 rw [Znz s (by rw [Zl]; decide) hk]
 rfl
theorem so {a b : ByteArray} (h : a.size + b.size ≤ 1000000) : Z36 a b := by unfold Z36; have := Zl; omega
def Z3c (x : Gt) : ByteArray := if x.gi = 2 ∨ x.gi = 4 then (x.gn ++ bs [47]) ++ decB x.ga.length else bs []
theorem Zw8 {n : Nat} (h : n ≤ 999999) : (decB n).size ≤ 6 := Zg4 5 n (by omega)
theorem Zd6 {k : Nat} {x : Gt} (hn : Nm x) (hl : x.ga.length ≤ 999999) : Z5l k x = some (Z3c x) := by
 have h1 := hn.name
 have h2 := Zw8 hl
 have e : Z8o k x = some ((x.gn ++ bs [47]) ++ decB x.ga.length) := by
  unfold Z8o
  rw [if_pos (so (by show x.gn.size + 1 ≤ 1000000; omega)), Zvr (by omega), obs, if_pos (so (by rw [ByteArray.size_append]; show x.gn.size + 1 + _ ≤ 1000000; omega))]
 unfold Z5l Z3c
 by_cases c2 : x.gi = 2
 ·rw [if_neg (by simp [c2]), e, if_pos (.inl c2)]
 ·rw [if_pos (by simp [c2])]
  by_cases c4 : x.gi = 4
  ·rw [if_neg (by simp [c4]), e, if_pos (.inr c4)]
  ·rw [if_pos (by simp [c4]), if_neg (by simp [c2, c4])]
theorem Zt8 {x : Gt} (hn : Nm x) (hl : x.ga.length ≤ 999999) : (Z3c x).size ≤ 27 := by
 have h1 := hn.name
 have h2 := Zw8 hl
 unfold Z3c
 split
 ·rw [ByteArray.size_append, ByteArray.size_append]; show x.gn.size + 1 + _ ≤ 27; omega
 ·decide
def tl (s : ByteArray) : List UInt8 := s.data.toList
theorem Zrk (a b : ByteArray) : tl (a ++ b) = tl a ++ tl b := by unfold tl; simp
theorem Zug (l : List UInt8) : tl (bs l) = l := rfl
theorem Zyd (n : Nat) : ∃ s, decB n = s ++ bs [UInt8.ofNat (48 + n % 10)] := by
 by_cases h : n < 10
 ·refine ⟨bs [], ?_⟩
  rw [Z89 h, Nat.mod_eq_of_lt h]
  apply ByteArray.ext
  simp [bs]
 ·exact ⟨_, Znf h⟩
theorem Zyp {x : Gt} {t : ByteArray} {d : Nat} {l : List UInt8} (h : sEq (Z3c x) t = true) (hd : d < 10) (ht : tl t = l ++ [47, UInt8.ofNat (48 + d)]) : x.ga.length = d ∧ (x.gi = 2 ∨ x.gi = 4) := by
 have h := Zax.1 h
 rw [← h] at ht
 unfold Z3c at ht
 split at ht
 ·rename_i hk
  refine ⟨?_, hk⟩
  rw [Zrk, Zrk, Zug] at ht
  have inj : ∀ a : Nat, a < 10 → ∀ b : Nat, b < 10 → UInt8.ofNat (48 + a) = UInt8.ofNat (48 + b) → a = b := by decide
  have n47 : ∀ a : Nat, a < 10 → UInt8.ofNat (48 + a) ≠ 47 := by decide
  by_cases hn : x.ga.length < 10
  ·rw [Z89 hn, Zug, List.append_assoc] at ht
   have := (List.append_inj' ht rfl).2
   simp only [List.cons_append, List.nil_append, List.cons.injEq, and_true, true_and] at this
   exact inj _ hn _ hd this
  ·exfalso
   obtain ⟨s, e⟩ := Zyd (x.ga.length / 10)
   rw [Znf hn, e, Zrk, Zrk, Zug, Zug] at ht
   rw [show tl x.gn ++ [47] ++ (tl s ++ [UInt8.ofNat (48 + x.ga.length / 10 % 10)] ++ [UInt8.ofNat (48 + x.ga.length % 10)]) = (tl x.gn ++ [47] ++ tl s) ++ [UInt8.ofNat (48 + x.ga.length / 10 % 10), UInt8.ofNat (48 + x.ga.length % 10)] by simp] at ht
   have := (List.append_inj' ht rfl).2
   simp only [List.cons.injEq, and_true] at this
   exact n47 _ (Nat.mod_lt _ (by decide)) this.1
 ·rename_i hk
  have := congrArg List.length ht
  simp [Zug] at this
theorem Zyf {x : Gt} (h : has ctl (Z3c x) = true) (h1 : sEq (Z3c x) (bs [116, 114, 117, 101, 47, 48]) = false) (h2 : sEq (Z3c x) (bs [102, 97, 105, 108, 47, 48]) = false) (h3 : sEq (Z3c x) (bs [33, 47, 48]) = false) : 1 ≤ x.ga.length := by
 have key : ctl.all (fun t => sEq t (bs [116, 114, 117, 101, 47, 48]) || sEq t (bs [102, 97, 105, 108, 47, 48]) || sEq t (bs [33, 47, 48]) || (match (tl t).reverse with | c :: d :: _ => d == 47 && (c == 49 || c == 50 || c == 51) | _ => false)) = true := by decide +kernel
 have hm := Zn6.1 h
 have := List.all_eq_true.1 key _ hm
 simp only [h1, h2, h3, Bool.false_or] at this
 split at this
 ·rename_i c d l e
  have e2 : tl (Z3c x) = l.reverse ++ [d, c] := by
   rw [← List.reverse_reverse (tl (Z3c x)), e]; simp
  simp only [Bool.and_eq_true, beq_iff_eq, Bool.or_eq_true] at this
  obtain ⟨rfl, (rfl | rfl) | rfl⟩ := this
  ·have := (Zyp (x := x) (t := Z3c x) (d := 1) (Z6u _) (by decide) e2).1; omega
  ·have := (Zyp (x := x) (t := Z3c x) (d := 2) (Z6u _) (by decide) e2).1; omega
  ·have := (Zyp (x := x) (t := Z3c x) (d := 3) (Z6u _) (by decide) e2).1; omega
 ·cases this
theorem isSt (k : Nat) (x : Gt) (s : ByteArray) (n : Int) : ∃ b, Z3r k x s n = some b ∧ (b = true → (x.ga.length : Int) = n) := by
 unfold Z3r
 split
 ·split
  ·exact ⟨_, rfl, fun h => by simpa using h⟩
  ·exact ⟨_, rfl, fun h => by cases h⟩
 ·exact ⟨_, rfl, fun h => by cases h⟩
theorem Zmx (a : Int) (b : ByteArray) (c : Int) (l : List Gt) : nT (.mk a b c l) = nsum nT l := by rw [Z5v]; rfl
theorem Zte {a : Int} {b : ByteArray} {c : Int} (h1 : -9223372036854775808 ≤ a ∧ a ≤ 9223372036854775807) (h2 : b.size ≤ 20) (h3 : -9223372036854775808 ≤ c ∧ c ≤ 9223372036854775807) : BigT (.mk a b c []) :=
 ⟨Zi2 h1 (by omega) h3 (by simp) (fun x hx => by cases hx), by rw [Zmx]; simp [nsum], .mk h2 (fun x hx => by cases hx)⟩
theorem Zw4 {k : Nat} (hk : maxLen < k) (c : Int) {s : ByteArray} (hs : s.size ≤ 20 ∨ s.size ≤ 1000) : ∃ y, Z8p k c s = some y ∧ BigT y := by
 have hM := Zl
 have J : ∀ z : ByteArray, z.size ≤ 20 → ∃ y, Z65 k s z = some y ∧ BigT y := fun z hz => by
  have two : ∀ w : ByteArray, w.size ≤ 20 → BigT (.mk 4 (bs [101, 114, 114, 111, 114]) 0 [.mk 2 z 0 [], .mk 2 w 0 []]) := fun w hw => by
   have a := Zte (a := 2) (b := z) (c := 0) (by omega) hz (by omega)
   have b := Zte (a := 2) (b := w) (c := 0) (by omega) hw (by omega)
   have mem : ∀ P : Gt → Prop, P (.mk 2 z 0 []) → P (.mk 2 w 0 []) → ∀ x ∈ [Gt.mk 2 z 0 [], .mk 2 w 0 []], P x := fun P p q x hx => by
    rcases List.mem_cons.1 hx with rfl | hx
    ·exact p
    ·rw [List.mem_singleton.1 hx]; exact q
   exact ⟨Zi2 (by omega) (by decide) (by omega) (by simp) (mem _ a.1 b.1), by rw [Zmx]; simp [nsum, Zmx], .mk (by decide) (mem _ a.2.2 b.2.2)⟩
  unfold Z65
  rw [Zzb (by omega) hk, obs]
  split
  ·exact ⟨_, rfl, two _ (by decide)⟩
  ·rename_i h
   refine ⟨_, rfl, two _ ?_⟩
   by_cases hn : nmOk s
   ·exact hn.2.2
   ·simp [hn] at h
 unfold Z8p
 rw [Zfa, obs]
 split
 ·rename_i h
  have h := of_decide_eq_true h
  rw [Z4w (by omega) (by omega)]
  obtain ⟨n, hn⟩ := Int.eq_ofNat_of_zero_le (show 0 ≤ c - 1 by omega)
  rw [hn, Z4c (show n < [(bs [105, 110, 115, 116]), (bs [116, 121, 112, 101]), (bs [114, 97, 110, 103, 101]), (bs [122, 101, 114, 111])].length by show n < 4; omega), obs]
  refine J _ ?_
  have : ∀ n, (h : n < 4) → ([(bs [105, 110, 115, 116]), (bs [116, 121, 112, 101]), (bs [114, 97, 110, 103, 101]), (bs [122, 101, 114, 111])][n]'h).size ≤ 20 := by decide
  exact this n (by omega)
 ·exact J _ (by decide)
theorem Zjy (k : Nat) (f : List Gt → Gt → Int → Option (Int × Int)) (x : Int) : ∃ r, Z72 k f x = some r ∧ -999999999 ≤ r.1 ∧ r.1 ≤ 999999999 := by
 unfold Z72
 rw [Zfa, obs]
 split
 ·exact ⟨_, rfl, by decide, by decide⟩
 ·rename_i h
  refine ⟨_, rfl, ?_⟩
  simp [inR] at h
  exact h
def InE (r : Option (Int × Int)) : Prop := ∃ v, r = some v ∧ -999999999 ≤ v.1 ∧ v.1 ≤ 999999999
theorem inE (a b : Int) (h : -999999999 ≤ a ∧ a ≤ 999999999) : InE (some (a, b)) := ⟨_, rfl, h.1, h.2⟩
theorem InE.ite {c : Prop} [Decidable c] {a b : Option (Int × Int)} (ha : c → InE a) (hb : ¬ c → InE b) : InE (if c then a else b) := by
 split
 ·exact ha ‹_›
 ·exact hb ‹_›
theorem Z12n : ∀ (k d : Nat) (l : List Gt) (x : Gt), l.length ≤ 1048576 → AllB l → BigT x → d ≤ 41 → maxLen + (42 - d) < k → InE (Z46 k l x (d : Int))
 | 0, d, l, x, hl, ha, hx, hd, hk => by omega
 | k + 1, d, l, x, hl, ha, hx, hd, hk => by
  have hM := Zl
  unfold Z46
  rw [(Zq0 (k := k) (by omega) hl x).1, obs]
  have hy : BigT (wk 5000 l x) := Zpz ha 5000 x hx
  generalize wk 5000 l x = y at hy
  have z : ∀ c, InE (some (0, c)) := fun c => inE _ _ (by omega)
  refine .ite (fun _ => z _) fun _ => .ite (fun _ => ?_) fun _ => .ite (fun _ => z _) fun _ => .ite (fun _ => z _) fun hd40 => ?_
  ·rw [Zfa, obs]
   refine .ite (fun _ => z _) fun h => inE _ _ ?_
   simp [inR] at h
   exact h
  have hd40 : d ≤ 40 := by
   have : (d : Int) ≤ 40 := by simpa using hd40
   omega
  have hw : wr.i64 ((d : Int) + 1) = ((d + 1 : Nat) : Int) := by rw [Z4w (by omega) (by omega)]; omega
  have ih : ∀ w ∈ y.ga, InE (Z46 k l w (wr.i64 ((d : Int) + 1))) := fun w hw2 => by
   rw [hw]
   exact Z12n k (d + 1) l w hl ha (Z98 hy hw2) (by omega) (by omega)
  have J3 : ∀ b r v, InE (Zbe k (Z46 k) b r y v) := fun b r v => by
   unfold Zbe
   refine .ite (fun _ => Zjy ..) fun _ => .ite (fun _ => Zjy ..) fun _ => .ite (fun _ => Zjy ..) fun _ => .ite (fun _ => Zjy ..) fun _ => .ite (fun _ => z _) fun h => ?_
   rw [if_pos (by simpa using h)]
   exact Zjy ..
  have J2 : ∀ b, 1 ≤ y.ga.length → (b = true → y.ga.length = 2) → InE (Zbf k (Z46 k) y l (d : Int) b) := fun b h1 h2 => by
   unfold Zbf
   rw [show (0 : Int) = ((0 : Nat) : Int) from rfl, Z4c (show 0 < y.ga.length by omega), obs]
   obtain ⟨r, e, _⟩ := ih _ (List.getElem_mem (show 0 < y.ga.length by omega))
   rw [e, obs]
   refine .ite (fun _ => z _) fun _ => .ite (fun hb => ?_) fun _ => J3 _ _ _
   have h2 := h2 hb
   rw [show (1 : Int) = ((1 : Nat) : Int) from rfl, Z4c (show 1 < y.ga.length by omega), obs]
   obtain ⟨r, e, _⟩ := ih _ (List.getElem_mem (show 1 < y.ga.length by omega))
   rw [show ((1 : Nat) : Int) = 1 from rfl, e, obs]
   exact .ite (fun _ => z _) fun _ => J3 _ _ _
  have J1 : ∀ b, (b = true → y.ga.length = 2) → InE (Z73 k (Z46 k) y l (d : Int) b) := fun b h2 => by
   unfold Z73
   refine .ite (fun _ => ?_) fun hb => J2 _ (by have := h2 (by simpa using hb); omega) h2
   obtain ⟨c, e, h⟩ := isSt k y (bs [45]) 1
   rw [e, obs]
   refine .ite (fun _ => z _) fun hc => J2 _ (by have := h (by simpa using hc); omega) h2
  refine .ite (fun h => ?_) fun _ => J1 _ (fun h => by cases h)
  have h : y.ga.length = 2 := by have : (y.ga.length : Int) = 2 := (by simpa using h); omega
  exact .ite (fun _ => J1 _ fun _ => h) fun _ => .ite (fun _ => J1 _ fun _ => h) fun _ => .ite (fun _ => J1 _ fun _ => h) fun _ => J1 _ fun _ => h
theorem Zum {k : Nat} {f : Gt → Gt → Option Bool} {l m : List Gt} (hl : l.length ≤ maxLen) (hlm : l.length = m.length) (hf : ∀ x ∈ l, ∀ y, ∃ b, f x y = some b) : ∀ (n j : Nat), j ≤ l.length → l.length - j < n →
  ∃ o, Z3 k f l m n (j : Int) = some o
 | 0, j, h1, h2 => by omega
 | n + 1, j, h1, h2 => by
  unfold Z3
  by_cases hlt : j < l.length
  ·obtain ⟨b, e⟩ := hf _ (List.getElem_mem hlt) (m[j]'(by omega))
   rw [if_pos (by simpa using hlt), Z4c hlt, obs, Z4c (show j < m.length by omega), obs, e, obs, Z3v hlt hl]
   split
   ·exact ⟨_, rfl⟩
   ·exact Zum hl hlm hf n (j + 1) (by omega) (by omega)
  ·rw [if_neg (by simpa using hlt)]
   exact ⟨_, rfl⟩
theorem Z11t : ∀ (k : Nat) (x y : Gt), x.ok → maxLen + 2 * nT x + 2 < k → ∃ b, Z5d k x y = some b
 | 0, x, y, hx, hk => by omega
 | k + 1, x, y, hx, hk => by
  have hn := Z5v x
  have hl := (Zjg hx).1
  unfold Z5d
  split
  ·split
   ·split
    ·unfold Z8
     split
     ·exact ⟨_, rfl⟩
     ·rename_i h
      have h : x.ga.length = y.ga.length := by
       have : (x.ga.length : Int) = y.ga.length := by simpa using h
       omega
      obtain ⟨o, e⟩ := Zum (k := k) (f := Z5d k) hl h (fun z hz w => by
       have := Z7q (n := nT) hz
       exact Z11t k z w (Zs1 hx hz) (by omega)) k 0 (by omega) (by omega)
      rw [show ((0 : Nat) : Int) = 0 from rfl] at e
      rw [e]
      cases o <;> exact ⟨_, rfl⟩
    ·exact ⟨_, rfl⟩
   ·exact ⟨_, rfl⟩
  ·exact ⟨_, rfl⟩
theorem idx {s : ByteArray} {n : Nat} (h : n < s.size) : 0 ≤ (n : Int) ∧ ((n : Int)).toNat < s.size := ⟨by omega, by simpa using h⟩
theorem Zxb {n : Nat} (h : n ≤ 3000) : wr.i64 ((n : Int) + 1) = ((n + 1 : Nat) : Int) := by rw [Z4w (by omega) (by omega)]; omega
theorem runs {s : ByteArray} (hs : s.size ≤ 20) {f : Int → Option Bool} {L : Nat → Int → Option (Out Int Int)} (hf : ∀ b, ∃ c, f b = some c)
  (hL : ∀ m (n : Int), L (m + 1) n = if (decide (n < (s.size : Int))) = true then (if 0 ≤ n ∧ n.toNat < s.size then (f (bt s n)).bind fun c => if c = true then L m (wr.i64 (n + 1)) else some (.done n) else none) else some (.done n)) :
  ∀ (m n : Nat), n ≤ s.size → s.size - n < m → ∃ p : Nat, L m (n : Int) = some (.done (p : Int)) ∧ n ≤ p ∧ p ≤ s.size ∧ (n < s.size → f (bt s (n : Int)) = some true → n < p)
 | 0, n, h1, h2 => by omega
 | m + 1, n, h1, h2 => by
  rw [hL]
  by_cases hlt : n < s.size
  ·obtain ⟨c, e⟩ := hf (bt s (n : Int))
   rw [if_pos (by simpa using hlt), if_pos (idx hlt), e, obs]
   cases c with
   | true =>
    rw [if_pos rfl, Zxb (by omega)]
    obtain ⟨p, q1, q2, q3, _⟩ := runs hs hf hL m (n + 1) (by omega) (by omega)
    exact ⟨p, q1, by omega, q3, fun _ _ => by omega⟩
   | false => exact ⟨n, rfl, Nat.le_refl _, h1, fun _ h => by cases h⟩
  ·rw [if_neg (by simpa using hlt)]
   exact ⟨n, rfl, Nat.le_refl _, h1, fun h => absurd h hlt⟩
theorem lowT (k : Nat) (b : Int) : ∃ c, Zc1 k b = some c := by unfold Zc1; split <;> exact ⟨_, rfl⟩
theorem upT' (k : Nat) (b : Int) : ∃ c, Zdy k b = some c := by unfold Zdy; split <;> exact ⟨_, rfl⟩
theorem figT (k : Nat) (b : Int) : ∃ c, Za2 k b = some c := by unfold Za2; split <;> exact ⟨_, rfl⟩
theorem Z132 (k : Nat) (b : Int) : ∃ c, Z61 k b = some c := by
 unfold Z61
 obtain ⟨c1, e1⟩ := lowT k b
 obtain ⟨c2, e2⟩ := upT' k b
 obtain ⟨c3, e3⟩ := figT k b
 rw [e1, obs, e2, obs, e3, obs]
 cases c1 <;> cases c2 <;> cases c3 <;> exact ⟨_, rfl⟩
theorem Zny {k : Nat} {s : ByteArray} {n e : Nat} (hs : s.size ≤ 20) (h1 : n < e) (h2 : e ≤ s.size) (g : Gn) : ∃ g' p, Z29 k (n : Int) s (e : Int) g = some (g', ((p : Nat) : Int)) ∧ n < p ∧ p ≤ s.size := by
 have J : ∀ b, ∃ g' p, Z5p k (n : Int) s g (e : Int) b = some (g', ((p : Nat) : Int)) ∧ n < p ∧ p ≤ s.size := fun b => by
  unfold Z5p
  cases b with
  | true => rw [if_pos rfl, Zxb (by omega), if_pos ⟨by omega, by omega, by omega⟩]; exact ⟨_, n + 1, rfl, by omega, by omega⟩
  | false => exact ⟨_, e, rfl, h1, h2⟩
 unfold Z29
 rw [if_pos ⟨by omega, by omega, by omega⟩]
 split
 ·exact J _
 ·split
  ·exact J _
  ·exact J _
theorem Zyz {k : Nat} {s : ByteArray} (hs : s.size ≤ 20) {p : Nat} (hp : p ≤ s.size) : ∀ (m n : Nat) (v : Int), n ≤ p → p - n < m → ∃ v', Z6n k (p : Int) s m v (n : Int) = some (.done v')
 | 0, n, v, h1, h2 => by omega
 | m + 1, n, v, h1, h2 => by
  rw [Z6n]
  by_cases hlt : n < p
  ·rw [if_pos (by simpa using hlt)]
   split
   ·rw [if_pos (idx (by omega)), Zxb (by omega)]
    exact Zyz hs hp m (n + 1) _ (by omega) (by omega)
   ·exact ⟨_, rfl⟩
  ·rw [if_neg (by simpa using hlt)]; exact ⟨_, rfl⟩
theorem sign {k : Nat} (hk : 3000 ≤ k) {s : ByteArray} (hs : nmOk s) {n : Nat} (h : n < s.size) : ∃ g p, Z9z k s (n : Int) = some (g, ((p : Nat) : Int)) ∧ n < p ∧ p ≤ s.size := by
 have hz := hs.2.2
 have w1 : wr.i64 ((n : Int) + 1) = ((n + 1 : Nat) : Int) := Zxb (by omega)
 have one : ∀ g, ∃ g' p, Z29 k (n : Int) s ((n + 1 : Nat) : Int) g = some (g', ((p : Nat) : Int)) ∧ n < p ∧ p ≤ s.size := Zny hz (Nat.lt_succ_self _) h
 have sym : ∀ b, Z5c k b = some (decide (Lib.indexByte (bs [43, 45, 42, 47, 92, 94, 60, 62, 61, 126, 58, 46, 63, 64, 35, 38, 36]).data.toList b.toNat.toUInt8 ≥ 0)) := fun b => by unfold Z5c Z3g; rw [obs]
 have ends : ∃ b, Za3 k s (n : Int) = some b := by
  have J : ∃ b, Z6q k (n : Int) s = some b := by
   unfold Z6q
   rw [w1]
   by_cases c : (((n + 1 : Nat) : Int) == (s.size : Int)) = true
   ·rw [if_pos c]; exact ⟨_, rfl⟩
   ·have : ¬ ((n + 1 : Nat) : Int) = (s.size : Int) := by simpa using c
    rw [if_neg c, if_pos (idx (by omega))]; exact ⟨_, rfl⟩
  unfold Za3
  rw [if_pos (idx h)]
  split
  ·exact ⟨_, rfl⟩
  ·split
   ·rename_i h0
    have h0 : (n : Int) > 0 := by simpa using h0
    rw [show wr.i64 ((n : Int) - 1) = ((n - 1 : Nat) : Int) by rw [Z4w (by omega) (by omega)]; omega, if_pos (idx (by omega)), sym, obs]
    split
    ·exact ⟨_, rfl⟩
    ·exact J
   ·exact J
 have J5 : ∀ b, ∃ g p, Z6o k (n : Int) s b = some (g, ((p : Nat) : Int)) ∧ n < p ∧ p ≤ s.size := fun b => by
  unfold Z6o Z3g
  rw [w1]
  cases b with
  | true => rw [if_pos rfl]; exact one _
  | false =>
   rw [if_neg Bool.false_ne_true, obs]
   split
   ·exact one _
   ·have h39 : ¬ (bt s (n : Int) == 39) = true := by rw [beq_iff_eq]; exact (hs.1 n h).2.2.1
    rw [if_neg h39]; exact one _
 have J3 : ∀ b, (b = true → Z61 k (bt s (n : Int)) = some true) → ∃ g p, Z5o k s (n : Int) b = some (g, ((p : Nat) : Int)) ∧ n < p ∧ p ≤ s.size := fun b hb => by
  unfold Z5o
  cases b with
  | true =>
   obtain ⟨p, e, _, q2, q3⟩ := runs hz (Z132 k) (L := Z2j k s) (fun m n => by rw [Z2j]) k n (by omega) (by omega)
   obtain ⟨c, ec⟩ := lowT k (bt s (n : Int))
   unfold Z4e
   rw [if_pos rfl, e, obs, obs, ec, obs]
   have hlt := q3 h (hb rfl)
   split
   ·exact Zny hz hlt q2 _
   ·exact Zny hz hlt q2 _
  | false =>
   rw [if_neg Bool.false_ne_true]
   obtain ⟨c, ec⟩ := figT k (bt s (n : Int))
   rw [ec, obs]
   cases c with
   | true =>
    obtain ⟨p, e, _, q2, q3⟩ := runs hz (figT k) (L := Z2w k s) (fun m n => by rw [Z2w]) k n (by omega) (by omega)
    have hlt := q3 h ec
    obtain ⟨v, e4⟩ := Zyz (k := k) hz q2 k n 0 (by omega) (by omega)
    unfold Z4t
    rw [if_pos rfl, e, obs, obs, e4, obs]
    show ∃ g p', (if (decide (v ≤ 999999999)) = true then some (Gn.mk 3 (bs []) v (n : Int) false, (p : Int)) else _) = some (g, ((p' : Nat) : Int)) ∧ n < p' ∧ p' ≤ s.size
    split
    ·exact ⟨_, p, rfl, hlt, q2⟩
    ·exact Zny hz hlt q2 _
   | false =>
    rw [if_neg Bool.false_ne_true, sym, obs]
    split
    ·rename_i hsy
     obtain ⟨p, e, _, q2, q3⟩ := runs hz (fun b => ⟨_, sym b⟩) (L := Z27 k s) (fun m n => by rw [Z27]) k n (by omega) (by omega)
     have hlt := q3 h (by rw [sym, hsy])
     unfold Z3l
     rw [e, obs, obs]
     exact Zny hz hlt q2 _
    ·split
     ·exact J5 _
     ·exact J5 _
 obtain ⟨b, eb⟩ := ends
 obtain ⟨c1, e1⟩ := lowT k (bt s (n : Int))
 obtain ⟨c2, e2⟩ := upT' k (bt s (n : Int))
 obtain ⟨c3, e3⟩ := figT k (bt s (n : Int))
 unfold Z9z
 rw [if_pos (idx h), eb, obs]
 split
 ·rw [w1]; exact ⟨_, n + 1, rfl, by omega, by omega⟩
 rw [e1, obs]
 have wb : Z61 k (bt s (n : Int)) = some (c1 || (c2 || (c3 || (bt s (n : Int) == 95)))) := by
  unfold Z61
  rw [e1, obs, e2, obs, e3, obs]
  cases c1 <;> cases c2 <;> cases c3 <;> rfl
 cases c1 with
 | true => rw [if_pos rfl]; exact J3 _ (fun _ => by rw [wb]; rfl)
 | false =>
  rw [if_neg Bool.false_ne_true, e2, obs]
  cases c2 with
  | true => rw [if_pos rfl]; exact J3 _ (fun _ => by rw [wb]; rfl)
  | false => rw [if_neg Bool.false_ne_true]; exact J3 _ (fun h => by rw [wb, h]; cases c3 <;> rfl)
theorem Zi9 {k : Nat} (hk : 3000 ≤ k) {s : ByteArray} (hs : nmOk s) : ∀ (m n : Nat) (g : List Gn), n ≤ s.size → s.size - n < m → g.length ≤ n → ∃ g', Z4n k s m g (n : Int) = some (.done g')
 | 0, n, g, h1, h2, h3 => by omega
 | m + 1, n, g, h1, h2, h3 => by
  have hz := hs.2.2
  rw [Z4n]
  by_cases hlt : n < s.size
  ·have hg := hs.1 n hlt
   have h32 : (bt s (n : Int) == 32) = false := by rw [beq_eq_false_iff_ne]; have := hg.1; omega
   have h9 : (bt s (n : Int) == 9) = false := by rw [beq_eq_false_iff_ne]; have := hg.1; omega
   have h10 : (bt s (n : Int) == 10) = false := by rw [beq_eq_false_iff_ne]; have := hg.1; omega
   rw [if_pos (by simpa using hlt), if_pos (idx hlt), h32, if_neg Bool.false_ne_true, h9, if_neg Bool.false_ne_true, h10]
   unfold Z7d
   rw [if_neg Bool.false_ne_true]
   split
   ·obtain ⟨p, e, q1, q2, q3⟩ := runs hz (f := Z8n k) (fun b => ⟨_, rfl⟩) (L := Z2e k s) (fun m n => by rw [Z2e]) k n (by omega) (by omega)
    have hlt2 := q3 hlt (by
     unfold Z8n
     have : (bt s (n : Int) != 10) = true := by rw [bne_iff_ne]; have := hg.1; omega
     rw [this])
    unfold Z3w
    rw [e, obs, obs]
    exact Zi9 hk hs m p g q2 (by omega) (by omega)
   ·obtain ⟨q, p, e1, hp, hps⟩ := sign hk hs hlt
    rw [e1, obs]
    simp only
    have hle : ∀ z : Gn, g.length + [z].length ≤ 1073741824 := fun z => by simp only [List.length_cons, List.length_nil]; omega
    by_cases hlp : p < s.size
    ·rw [if_pos (by simpa using hlp), if_pos (idx hlp), if_pos (hle _)]
     exact Zi9 hk hs m p _ hps (by omega) (by simp only [List.length_append, List.length_cons, List.length_nil]; omega)
    ·rw [if_neg (by simpa using hlp), if_pos (hle _)]
     exact Zi9 hk hs m p _ hps (by omega) (by simp only [List.length_append, List.length_cons, List.length_nil]; omega)
  ·rw [if_neg (by simpa using hlt)]
   exact ⟨g, rfl⟩
def COk (c : Gc) : Prop := (c.gA.ok ∧ tOk c.gA = true) ∧ c.gD.ok ∧ tOk c.gD = true
theorem COk.head {c : Gc} (h : COk c) : BigT c.gA := Zd2 h.1.1 h.1.2
theorem COk.body {c : Gc} (h : COk c) : BigT c.gD := Zd2 h.2.1 h.2.2
def CMid (c : Gc) : Prop := MidT c.gA ∧ MidT c.gD ∧ Nm c.gA
theorem COk.mid {c : Gc} (h : COk c) : CMid c := ⟨h.head.mid, h.body.mid, h.head.2.2⟩
def DMid (d : Gd) : Prop := (∀ c ∈ d.gq, CMid c) ∧ d.gq.length ≤ 1000 ∧ d.gy.length ≤ 1000
def DOk (d : Gd) : Prop := (∀ c ∈ d.gq, COk c) ∧ d.gq.length ≤ 120 ∧ d.gy.length ≤ 40
theorem DOk.mid {d : Gd} (h : DOk d) : DMid d := ⟨fun c hc => (h.1 c hc).mid, by have := h.2.1; omega, by have := h.2.2; omega⟩
theorem Zs7 {x : Gt} (h : MidT x) : x.ga.length ≤ 3000 := by
 have h2 := h.2
 have h3 := Z5v x
 have h4 := Zar nT x.ga
 omega
section
variable {k : Nat} (hk : maxLen + 1000000 < k)
include hk
theorem Z12r {c : Gc} (h : CMid c) : Z6d k c = some c := by
 unfold Z6d
 rw [Zb5 hk h.1, obs, Zb5 hk h.2.1, obs]
theorem Zzp {c : Gc} (h : CMid c) : Z53 k c = some c := by
 unfold Z53
 rw [Zye, Zb5 hk h.1, obs, Zb5 hk h.2.1, obs]
theorem Zp5 {l : List Gc} (hl : l.length ≤ 1000) (ha : ∀ c ∈ l, CMid c) : ∀ (m j : Nat), j ≤ l.length → l.length - j < m → Z47 k l m (l.take j) (j : Int) = some (.done l)
 | 0, j, h1, h2 => by omega
 | m + 1, j, h1, h2 => by
  unfold Z47
  have hm : l.length ≤ maxLen := by rw [Zl]; omega
  by_cases hlt : j < l.length
  ·rw [if_pos (by simpa using hlt), Z4c hlt, obs, Zzp hk (ha _ (List.getElem_mem hlt)), obs, if_pos (by simp; omega), Z3v hlt hm, ← List.take_succ_eq_append_getElem hlt]
   exact Zp5 hl ha m (j + 1) (by omega) (by omega)
  ·rw [if_neg (by simpa using hlt), List.take_of_length_le (by omega)]
theorem Zzo {l : List Gc} (hl : l.length ≤ 1000) (ha : ∀ c ∈ l, CMid c) : Z3s k l = some l := by
 unfold Z3s
 have hM := Zl
 have e := Zp5 hk hl ha k 0 (by omega) (by omega)
 rw [show ((0 : Nat) : Int) = 0 from rfl, List.take_zero] at e
 rw [e]
 rfl
theorem Zsk {d : Gd} (h : DMid d) : Z5b k d = some d := by
 unfold Z5b
 rw [Zzo hk h.2.1 h.1, obs, if_pos (by have := h.2.2; simp; omega)]
theorem Zzi {x : Gt} (h : MidT x) (hn : Nm x) : ∃ b, Zbd k x = some b := by
 have hp := Zd6 (k := k) hn (by have := Zs7 h; omega)
 unfold Zbd
 rw [hp, obs, obs]
 split
 ·rw [Zhl (kk1 hk), obs]; exact ⟨_, rfl⟩
 ·exact ⟨_, rfl⟩
theorem Zw9 {d : Gd} (h : DMid d) : ∀ (m j : Nat), j ≤ d.gq.length → d.gq.length - j < m → ∃ o, Zbh k d m (j : Int) = some o ∧ (∀ b, o = .ret b → b = false) ∧ (∀ u, o = .done u → ∀ c ∈ d.gq.drop j, COk c)
 | 0, j, h1, h2 => by omega
 | m + 1, j, h1, h2 => by
  unfold Zbh
  have hm : d.gq.length ≤ maxLen := by rw [Zl]; have := h.2.1; omega
  by_cases hlt : j < d.gq.length
  ·obtain ⟨c1, c2, c3⟩ := h.1 _ (List.getElem_mem hlt)
   have no : ∃ o : Out Bool Unit, some (Out.ret false) = some o ∧ (∀ b, o = .ret b → b = false) ∧ (∀ u, o = .done u → ∀ c ∈ d.gq.drop j, COk c) := ⟨_, rfl, fun b e => by cases e; rfl, fun u e => by cases e⟩
   rw [if_pos (by simpa using hlt), Z4c hlt, obs, Zgu hk c1, obs, Zgu hk c2, obs]
   split
   ·exact no
   rename_i t1
   split
   ·exact no
   rename_i t2
   obtain ⟨b, e⟩ := Zzi hk c1 c3
   rw [e, obs]
   split
   ·exact no
   rw [Z3v hlt hm]
   obtain ⟨o, e1, e2, e3⟩ := Zw9 h m (j + 1) (by omega) (by omega)
   refine ⟨o, e1, e2, fun u hu c hc => ?_⟩
   rw [List.drop_eq_getElem_cons hlt] at hc
   rcases List.mem_cons.1 hc with rfl | hc
   ·exact ⟨⟨c1.1, by simpa using t1⟩, c2.1, by simpa using t2⟩
   ·exact e3 u hu c hc
  ·rw [if_neg (by simpa using hlt), List.drop_of_length_le (by omega)]
   exact ⟨_, rfl, fun b e => (by cases e), fun u _ c hc => (by cases hc)⟩
theorem dbOk {d : Gd} (h : DMid d) : ∃ b, Zgl k d = some b ∧ (b = true → DOk d) := by
 have hM := Zl
 have h2 := h.2.1
 obtain ⟨o, e, g1, g2⟩ := Zw9 hk h k 0 (by omega) (by omega)
 unfold Zgl
 rw [show ((0 : Nat) : Int) = 0 from rfl] at e
 rw [e, obs]
 cases o with
 | ret b => exact ⟨b, rfl, fun hb => by have := g1 b rfl; rw [this] at hb; cases hb⟩
 | done u =>
  have g2 := g2 u rfl
  rw [List.drop_zero] at g2
  show ∃ b, (if (decide ((d.gq.length : Int) ≤ 120)) = true then some (decide ((d.gy.length : Int) ≤ 40)) else some false) = some b ∧ _
  split
  ·rename_i h5
   exact ⟨_, rfl, fun hb => ⟨g2, (by have : (d.gq.length : Int) ≤ 120 := (by simpa using h5); omega), (by have : (d.gy.length : Int) ≤ 40 := (by simpa using hb); omega)⟩⟩
  ·exact ⟨_, rfl, fun hb => by cases hb⟩
theorem Zyh {x : Gt} (h : BigT x) (f : ByteArray) : ∃ c b, Za6 k x f = some (c, b) ∧ (b = true → CMid c) := by
 have no : ∃ c b, some (Gc.mk (Gt.mk 0 (bs []) 0 []) (Gt.mk 0 (bs []) 0 []) (bs []), false) = some (c, b) ∧ (b = true → CMid c) := ⟨_, _, rfl, fun h => by cases h⟩
 have J : ∀ c : Gc, CMid c → ∃ c' b, Z5s k c = some (c', b) ∧ (b = true → CMid c') := fun c hc => by
  unfold Z5s
  obtain ⟨b, e⟩ := Zzi hk hc.1 hc.2.2
  rw [e, obs]
  split
  ·exact no
  rw [Zgu hk hc.2.1, obs]
  split
  ·exact no
  rw [Z12r hk hc, obs]
  exact ⟨c, true, rfl, fun _ => hc⟩
 unfold Za6
 rw [Zgu hk h.mid, obs]
 split
 ·exact no
 unfold Z92
 obtain ⟨b, e, hb⟩ := isSt k x (bs [58, 45]) 2
 rw [obs, e, obs]
 split
 ·rename_i h1
  have h2 : x.ga.length = 2 := by have := hb h1; omega
  have a0 := Z98 h (List.getElem_mem (show 0 < x.ga.length by omega))
  have a1 := Z98 h (List.getElem_mem (show 1 < x.ga.length by omega))
  rw [show (0 : Int) = ((0 : Nat) : Int) from rfl, Z4c (show 0 < x.ga.length by omega), obs, show (1 : Int) = ((1 : Nat) : Int) from rfl, Z4c (show 1 < x.ga.length by omega), obs]
  split
  ·unfold Z3b
   rw [obs]
   refine J _ ⟨a0.mid, ⟨Zi2 (by omega) (by decide) (by decide) (by simp) (fun y hy => by rw [List.mem_singleton.1 hy]; exact a1.1), ?_⟩, a0.2.2⟩
   show nT (Gt.mk _ _ _ _) ≤ 3000
   have := a1.2.1
   rw [Zmx]
   simp only [nsum]
   omega
  ·exact J _ ⟨a0.mid, a1.mid, a0.2.2⟩
 ·exact J _ ⟨h.mid, (Zte (by omega) (by decide) (by omega)).mid, h.2.2⟩
theorem Z13l {d : Gd} (hd : DOk d) {c : Gc} (hc : CMid c) : ∃ d' b, Zbj k d c = some (d', b) ∧ (b = true → DOk d') := by
 have hm := hd.mid
 have h1 := hd.2.1
 unfold Zbj
 rw [Zsk hk hm, obs, Zzp hk hc, obs, if_pos (by simp; omega)]
 obtain ⟨b, e, h⟩ := dbOk hk (d := Gd.mk (d.gq ++ [c]) d.gy) ⟨fun z hz => by
  rcases List.mem_append.1 hz with hz | hz
  ·exact hm.1 z hz
  ·rw [List.mem_singleton.1 hz]; exact hc, by simp; omega, hm.2.2⟩
 rw [e, obs]
 cases b with
 | false => rw [if_pos (by rfl), obs]; exact ⟨_, _, rfl, fun h => by cases h⟩
 | true => rw [if_neg (by decide)]; exact ⟨_, _, rfl, fun _ => h rfl⟩
theorem Zdm {d : Gd} (hd : DOk d) (s : ByteArray) : ∀ (m j : Nat) (l : List Gc), j ≤ d.gq.length → d.gq.length - j < m → l.length ≤ j → (∀ c ∈ l, COk c) →
  ∃ l', Z54 k d s m l (j : Int) = some (.done l') ∧ l'.length ≤ 120 ∧ ∀ c ∈ l', COk c
 | 0, j, l, h1, h2, h3, h4 => by omega
 | m + 1, j, l, h1, h2, h3, h4 => by
  have hn := hd.2.1
  have hm : d.gq.length ≤ maxLen := by rw [Zl]; omega
  unfold Z54
  by_cases hlt : j < d.gq.length
  ·have hc := hd.1 _ (List.getElem_mem hlt)
   rw [if_pos (by simpa using hlt), Z4c hlt, obs, Zd6 hc.head.2.2 (by have := Z6h hc.head; omega), obs, Z3v hlt hm]
   split
   ·rw [Z12r hk hc.mid, obs, if_pos (by simp; omega)]
    refine Zdm hd s m (j + 1) _ (by omega) (by omega) (by simp; omega) (fun c h => ?_)
    rcases List.mem_append.1 h with h | h
    ·exact h4 c h
    ·rw [List.mem_singleton.1 h]; exact hc
   ·exact Zdm hd s m (j + 1) l (by omega) (by omega) (by omega) h4
  ·rw [if_neg (by simpa using hlt)]
   exact ⟨l, rfl, by omega, h4⟩
theorem Zwd {d : Gd} (hd : DOk d) (s : ByteArray) : ∃ l, Z8q k d s = some l ∧ l.length ≤ 120 ∧ ∀ c ∈ l, COk c := by
 have hM := Zl
 have h1 := hd.2.1
 obtain ⟨l, e, h⟩ := Zdm hk hd s k 0 [] (by omega) (by omega) (by simp) (fun c hc => by cases hc)
 unfold Z8q
 rw [show ((0 : Nat) : Int) = 0 from rfl] at e
 rw [e]
 exact ⟨l, rfl, h⟩
theorem Zsb {d : Gd} (hd : DOk d) (s : ByteArray) : ∀ (m j : Nat), j ≤ d.gq.length → d.gq.length - j < m → ∃ o, Za k d.gq s m (j : Int) = some o
 | 0, j, h1, h2 => by omega
 | m + 1, j, h1, h2 => by
  have _ := hk
  have hn := hd.2.1
  have hm : d.gq.length ≤ maxLen := by rw [Zl]; omega
  unfold Za
  by_cases hlt : j < d.gq.length
  ·have hc := hd.1 _ (List.getElem_mem hlt)
   unfold Ze1
   rw [if_pos (by simpa using hlt), Z4c hlt, obs, Zd6 hc.head.2.2 (by have := Z6h hc.head; omega), obs, obs, Z3v hlt hm]
   split
   ·exact ⟨_, rfl⟩
   ·exact Zsb hd s m (j + 1) (by omega) (by omega)
  ·rw [if_neg (by simpa using hlt)]
   exact ⟨_, rfl⟩
theorem Z13g {d : Gd} (hd : DOk d) (s : ByteArray) : ∃ b, Zfq k d s = some b := by
 have hM := Zl
 have h1 := hd.2.1
 have h2 := hd.2.2
 unfold Zfq
 rw [Znz s (by omega) (kk1 hk), obs]
 split
 ·exact ⟨_, rfl⟩
 unfold Zj Zo
 obtain ⟨o, e⟩ := Zsb hk hd s k 0 (by omega) (by omega)
 rw [show ((0 : Nat) : Int) = 0 from rfl] at e
 rw [e]
 cases o <;> exact ⟨_, rfl⟩
theorem Ztn {c : Gc} (h : COk c) : ∃ t, Z7e k c = some t ∧ MidT t := by
 have a0 := h.head
 have a1 := h.body
 unfold Z7e Z3b
 rw [Zb5 hk a0.mid, obs, Zb5 hk a1.mid, obs, obs]
 refine ⟨_, rfl, Zi2 (by omega) (by decide) (by decide) (by simp) (fun y hy => ?_), ?_⟩
 ·rcases List.mem_cons.1 hy with rfl | hy
  ·exact a0.1
  ·rw [List.mem_singleton.1 hy]; exact a1.1
 ·have := a0.2.1
  have := a1.2.1
  rw [Zmx]
  simp only [nsum]
  omega
end
theorem Zsq {k : Nat} (hk : 3000 ≤ k) {s : ByteArray} (hs : nmOk s) : ∃ r, Z48 k s = some r ∧ r.size ≤ 22 := by
 have hz := hs.2.2
 obtain ⟨g, e2⟩ := Zi9 hk hs k 0 [] (by omega) (by omega) (by simp)
 rw [show ((0 : Nat) : Int) = 0 from rfl] at e2
 have f2 : Zbg k s = some (g, true) := by
  unfold Zbg
  rw [if_neg (by rw [decide_eq_true_eq]; omega), e2]; rfl
 have z1 : (bs [39]).size = 1 := by decide
 have s1 : Z36 (bs [39]) s := so (by omega)
 have s2 : Z36 (bs [39] ++ s) (bs [39]) := so (by rw [ByteArray.size_append]; omega)
 have hq : (bs [39] ++ s ++ bs [39]).size ≤ 22 := by rw [ByteArray.size_append, ByteArray.size_append]; omega
 unfold Z48
 rw [f2, obs]
 simp only [if_pos s1, if_pos s2, if_true]
 by_cases hl : g.length = 1
 ·have hl' : ((g.length : Int) == 1) = true := by rw [beq_iff_eq]; omega
  rw [if_pos hl']
  have a0 : at' g 0 = some g[0] := Z4c (n := 0) (by omega)
  simp only [a0, obs]
  split
  ·split
   ·exact ⟨_, rfl, by omega⟩
   ·exact ⟨_, rfl, hq⟩
  ·exact ⟨_, rfl, hq⟩
 ·have hl' : ¬ ((g.length : Int) == 1) = true := by rw [beq_iff_eq]; omega
  rw [if_neg hl']
  exact ⟨_, rfl, hq⟩
theorem Zvq (xs : List (List UInt8)) (x sep : List UInt8) (h : xs ≠ []) : Lib.join (xs ++ [x]) sep = Lib.join xs sep ++ (sep ++ x) := by
 cases xs with
 | nil => exact absurd rfl h
 | cons y ys =>
  rw [List.cons_append, Lib.join_cons, Lib.join_cons]
  unfold Lib.joinTail
  simp
theorem Ztf (xs : List ByteArray) (x s : ByteArray) (h : xs ≠ []) : Zcy (xs ++ [x]) s = Zcy xs s ++ (s ++ x) := by
 unfold Zcy
 rw [List.map_append, List.map_singleton, Zvq _ _ _ (by simpa using h)]
 apply ByteArray.ext
 simp
def pr (x : Gt) : Bool := (x.gi == 4) && (sEq x.gn (bs [46]) && ((x.ga.length : Int) == 2))
theorem Zzh {k : Nat} {x : Gt} : Zbc k x = some (pr x) := by
 unfold Zbc Z3r pr
 cases x.gi == 4 <;> cases sEq x.gn (bs [46]) <;> rfl
theorem Zz8 {x : Gt} (h : pr x = true) : ∃ a b, x.ga = [a, b] ∧ nT x = 2 + nT a + nT b := by
 unfold pr at h
 simp only [Bool.and_eq_true, beq_iff_eq] at h
 have hl : x.ga.length = 2 := by omega
 match hx : x.ga, hl with
 | [a, b], _ => exact ⟨a, b, rfl, by rw [Z5v, hx]; simp only [nsum]; omega⟩
def Wr (W : Gt → Option ByteArray) (N : Nat) : Prop := ∀ (y : Gt) (d : Int), gT d y = true → nT y ≤ N → ∃ r, W y = some r ∧ r.size ≤ 120 * (nT y + 1)
theorem z1 (b : UInt8) : (bs [b]).size = 1 := rfl
theorem row {k N : Nat} {W X : Gt → Option ByteArray} (H : Wr W N) : ∀ (m : Nat) (s : ByteArray) (b : Gt) (d : Int), gT d b = true → nT b ≤ N → nT b < m → s.size + 120 * nT b ≤ 500000 →
  ∃ s' b', Zz k W X m s b = some (.done (s', b')) ∧ nT b' ≤ N ∧ (∃ e, gT e b' = true) ∧ s'.size + 120 * nT b' ≤ s.size + 120 * nT b
 | 0, s, b, d, hb, h4, h5, h6 => by omega
 | m + 1, s, b, d, hb, h4, h5, h6 => by
  rw [Zz, Zzh, obs]
  cases hp : pr b with
  | false =>
   rw [if_neg Bool.false_ne_true]
   exact ⟨s, b, rfl, h4, ⟨_, hb⟩, Nat.le_refl _⟩
  | true =>
   obtain ⟨u, v, k1, k2⟩ := Zz8 hp
   have b0 : at' b.ga 0 = some u := by rw [k1]; rfl
   have b1 : at' b.ga 1 = some v := by rw [k1]; rfl
   obtain ⟨r, e1, e3⟩ := H u _ (Zhm hb (by rw [k1]; simp)) (by omega)
   have s3 : Z36 (bs [44]) r := so (by rw [z1]; omega)
   have s4 : Z36 s (bs [44] ++ r) := so (by rw [ByteArray.size_append, z1]; omega)
   rw [if_pos rfl]
   simp only [b0, b1, e1, obs]
   rw [if_pos s3, if_pos s4]
   obtain ⟨s', b', f2, f4, f5, f6⟩ := row (k := k) (X := X) H m (s ++ (bs [44] ++ r)) v _ (Zhm hb (by rw [k1]; simp)) (by omega) (by omega) (by rw [ByteArray.size_append, ByteArray.size_append, z1]; omega)
   exact ⟨s', b', f2, f4, f5, by rw [ByteArray.size_append, ByteArray.size_append, z1] at f6; omega⟩
theorem kids {k N : Nat} {W X : Gt → Option ByteArray} (H : Wr W N) {x : Gt} {d : Int} (hx : gT d x = true) (hn : ∀ y ∈ x.ga, nT y ≤ N) (hl : x.ga.length ≤ 5) (hN : N ≤ 400) :
  ∀ (m j : Nat) (l : List ByteArray), j ≤ x.ga.length → x.ga.length - j < m → l.length = j →
   ∃ l', Ze k W X x m l (j : Int) = some (.done l') ∧ l'.length = x.ga.length ∧
    (Zcy l' (bs [44])).size ≤ (Zcy l (bs [44])).size + 120 * nsum nT (x.ga.drop j) + (x.ga.length - j)
 | 0, j, l, h1, h2, h3 => by omega
 | m + 1, j, l, h1, h2, h3 => by
  have hM := Zl
  rw [Ze]
  by_cases hlt : j < x.ga.length
  ·have hy := List.getElem_mem hlt
   obtain ⟨r, e1, e3⟩ := H _ _ (Zhm hx hy) (hn _ hy)
   have ns := Zjk hlt
   rw [if_pos (by simpa using hlt), Z4c hlt, obs, e1, obs, if_pos (by simp only [List.length_cons, List.length_nil]; omega), Z3v hlt (by omega)]
   obtain ⟨l', f1, f3, f4⟩ := kids (k := k) (X := X) H hx hn hl hN m (j + 1) (l ++ [r]) (by omega) (by omega) (by simp; omega)
   refine ⟨l', f1, f3, ?_⟩
   have js : (Zcy (l ++ [r]) (bs [44])).size ≤ (Zcy l (bs [44])).size + 1 + r.size := by
    by_cases hl0 : l = []
    ·subst hl0
     have : Zcy ([] ++ [r]) (bs [44]) = r := by unfold Zcy; simp [Lib.join]
     rw [this]; omega
    ·rw [Ztf l r (bs [44]) hl0, ByteArray.size_append, ByteArray.size_append, z1]; omega
   omega
  ·rw [if_neg (by simpa using hlt)]
   exact ⟨l, rfl, by omega, by omega⟩
theorem Zzg {α : Type} {c : Prop} [Decidable c] {a b : Option α} (ha : ∃ x, a = some x) (hb : ∃ x, b = some x) : ∃ x, (if c then a else b) = some x := by
 split
 ·exact ha
 ·exact hb
theorem Zse (k : Nat) (s : ByteArray) : ∃ r, Z9m k s = some r := by
 unfold Z9m Z9g Z4o Z9f
 repeat' (first | apply Zzg | exact ⟨_, rfl⟩)
theorem Zv0 (k : Nat) (s : ByteArray) : ∃ r, Za5 k s = some r := by
 unfold Za5
 repeat' (first | apply Zzg | exact ⟨_, rfl⟩)
theorem Zxi {k : Nat} (hk : 3000 ≤ k) {s : ByteArray} (hs : nmOk s) : ∃ r, Z9y k s = some r ∧ r.size ≤ 22 := by
 unfold Z9y
 split
 ·exact ⟨s, rfl, by have := hs.2.2; omega⟩
 ·obtain ⟨r, e, h⟩ := Zsq hk hs
  rw [e]; exact ⟨r, rfl, h⟩
theorem dec9 {k : Nat} {n : Int} (h : -999999999 ≤ n ∧ n ≤ 999999999) : ∃ r, Z5r k n = some r ∧ r.size ≤ 10 := by
 by_cases hn : n < 0
 ·obtain ⟨m, hm⟩ := Int.eq_ofNat_of_zero_le (show 0 ≤ -n by omega)
  refine ⟨_, by rw [show n = -(m : Int) by omega]; exact Z10s (by omega) (by omega), ?_⟩
  have := Zg4 8 m (by omega)
  rw [ByteArray.size_append, z1]; omega
 ·obtain ⟨m, hm⟩ := Int.eq_ofNat_of_zero_le (show 0 ≤ n by omega)
  refine ⟨_, by rw [hm]; exact Zvr (by omega), ?_⟩
  have := Zg4 8 m (by omega)
  omega
theorem Zu4 : ∀ (N : Nat), N ≤ 400 → ∀ (k : Nat), 5000 + maxLen + 4 * N < k → Wr (Z4s k) N
 | N, hN, 0, hk => by omega
 | N, hN, 1, hk => by omega
 | N, hN, k + 2, hk => by
  intro x d hx hn
  have hM := Zl
  have hgt := hx
  rw [Zti] at hgt
  simp only [Bool.and_eq_true] at hgt
  have h1 := hgt.2.1
  have hk3 : 3000 ≤ k + 1 := by omega
  have hkk : 3000 ≤ k := by omega
  rw [Z4s]
  suffices h : ∃ r, Z14 (k + 1) (Z4s (k + 1)) (Z40 (k + 1)) x = some r ∧ r.size ≤ 120 * (nT x + 1) by
   obtain ⟨r, e, hr⟩ := h
   rw [e]; exact ⟨r, rfl, hr⟩
  unfold Z14
  unfold one at h1
  by_cases k1 : x.gi = 1
  ·rw [if_pos k1] at h1
   simp only [Bool.and_eq_true] at h1
   have hr := of_decide_eq_true h1.1
   obtain ⟨r, e, h⟩ := dec9 (k := k + 1) (n := x.gj) (by omega)
   rw [if_pos (by rw [beq_iff_eq]; exact k1), e, obs, if_pos (so (by rw [z1]; omega))]
   exact ⟨_, rfl, by rw [ByteArray.size_append, z1]; omega⟩
  rw [if_neg k1] at h1
  rw [if_neg (by rw [beq_iff_eq]; exact k1)]
  by_cases k3 : x.gi = 3
  ·rw [if_neg (by omega), if_pos k3] at h1
   simp only [Bool.and_eq_true] at h1
   have hr := of_decide_eq_true h1.1
   obtain ⟨r, e, h⟩ := dec9 (k := k + 1) (n := x.gj) (by omega)
   rw [if_pos (by rw [beq_iff_eq]; exact k3), e, obs]
   exact ⟨_, rfl, by omega⟩
  rw [if_neg (by rw [beq_iff_eq]; exact k3)]
  have hia : ∀ (q : Nat) (y : Gt), ∃ b, Za1 q y (bs [91, 93]) = some b := fun q y => by
   unfold Za1
   split <;> exact ⟨_, rfl⟩
  obtain ⟨b0, e0⟩ := hia (k + 1) x
  rw [e0, obs]
  cases b0 with
  | true => rw [if_pos rfl]; exact ⟨_, rfl, by have : (bs [91, 93]).size = 2 := rfl; omega⟩
  | false =>
   rw [if_neg Bool.false_ne_true]
   have hnm : nmOk x.gn := by
    by_cases k2 : x.gi = 2
    ·rw [if_pos k2] at h1; simp only [Bool.and_eq_true, decide_eq_true_eq] at h1; exact h1.1
    ·rw [if_neg k2, if_neg k3] at h1
     split at h1
     ·simp only [Bool.and_eq_true, decide_eq_true_eq] at h1; exact h1.1
     ·cases h1
   obtain ⟨nm, t2, t3⟩ := Zsq hk3 hnm
   obtain ⟨sn, u2, u3⟩ := Zxi hkk hnm
   by_cases k2 : x.gi = 2
   ·have c2 : (x.gi == 2) = true := by rw [beq_iff_eq]; exact k2
    rw [if_pos c2]
    unfold Zmp
    obtain ⟨i, q1⟩ := Zse (k + 1) x.gn
    obtain ⟨j, q2⟩ := Zv0 (k + 1) x.gn
    have J : ∀ b : Bool, ∃ r, Zp (k + 1) (Z4s (k + 1)) (Z40 (k + 1)) x b = some r ∧ r.size ≤ 120 * (nT x + 1) := fun b => by
     unfold Zp
     rw [t2, obs, obs, if_pos (so (by rw [z1]; omega)), if_pos (so (by rw [ByteArray.size_append, z1, z1]; omega)), if_pos c2]
     cases b with
     | true => exact ⟨_, rfl, by rw [ByteArray.size_append, ByteArray.size_append, z1, z1]; omega⟩
     | false => exact ⟨_, rfl, by omega⟩
    rw [q1, q2]
    simp only [obs]
    split
    ·exact J _
    ·exact J _
   ·have c2 : ¬ (x.gi == 2) = true := by rw [beq_iff_eq]; exact k2
    rw [if_neg c2]
    rw [if_neg k2, if_neg k3] at h1
    have k4 : x.gi = 4 := by
     by_cases q : x.gi = 4
     ·exact q
     ·rw [if_neg q] at h1; cases h1
    rw [if_pos k4] at h1
    simp only [Bool.and_eq_true, decide_eq_true_eq] at h1
    have hl := of_decide_eq_true h1.2.2
    have hkn := Z5v x
    have hlen := Zar nT x.ga
    obtain ⟨M, rfl⟩ : ∃ M, N = M + 1 := ⟨N - 1, by omega⟩
    have H1 : Wr (Z4s (k + 1)) M := Zu4 M (by omega) (k + 1) (by omega)
    have H3 : Wr (Z4s k) M := Zu4 M (by omega) k (by omega)
    have hkids : ∀ y ∈ x.ga, nT y ≤ M := fun y hy => by have := Z7q (n := nT) hy; omega
    unfold Zp
    rw [if_neg Bool.false_ne_true, if_neg c2, Zzh, obs]
    cases hp : pr x with
    | true =>
     rw [if_pos rfl]
     obtain ⟨u, v, q1, q2⟩ := Zz8 hp
     have x0 : at' x.ga 0 = some u := by rw [q1]; rfl
     have x1 : at' x.ga 1 = some v := by rw [q1]; rfl
     obtain ⟨r, e1, e3⟩ := H1 u _ (Zhm hx (by rw [q1]; simp)) (by omega)
     rw [x0, obs, e1, obs, if_pos (so (by rw [z1]; omega)), x1, obs]
     obtain ⟨s', b', f1, f2, ⟨e, f3⟩, f4⟩ := row (k := k + 1) (X := Z40 (k + 1)) H1 (k + 1) (bs [91] ++ r) v _ (Zhm hx (by rw [q1]; simp)) (by omega) (by omega) (by rw [ByteArray.size_append, z1]; omega)
     rw [ByteArray.size_append, z1] at f4
     rw [f1, obs]
     show ∃ r, ((Za1 (k + 1) b' (bs [91, 93])).bind _) = some r ∧ _
     obtain ⟨c, ec⟩ := hia (k + 1) b'
     rw [ec, obs]
     cases c with
     | true =>
      rw [if_neg (by decide), if_pos (so (by rw [z1]; omega))]
      exact ⟨_, rfl, by rw [ByteArray.size_append, z1]; omega⟩
     | false =>
      obtain ⟨r2, e4, e5⟩ := H1 b' e f3 f2
      rw [if_pos (by rfl), e4, obs, if_pos (so (by rw [z1]; omega)), if_pos (so (by rw [ByteArray.size_append, z1]; omega)), if_pos (so (by rw [ByteArray.size_append, ByteArray.size_append, z1, z1]; omega))]
      exact ⟨_, rfl, by simp only [ByteArray.size_append, z1]; omega⟩
    | false =>
     rw [if_neg Bool.false_ne_true]
     unfold Zdz
     obtain ⟨i, w1⟩ := Zse (k + 1) x.gn
     rw [w1, obs]
     have rest : ∃ r, ((Ze (k + 1) (Z4s (k + 1)) (Z40 (k + 1)) x (k + 1) [] 0).bind fun out3 => match out3 with
       | .ret r => some r
       | .done u6v => (Z48 (k + 1) x.gn).bind fun u2d => if Z36 u2d (bs [40]) then (Z78 (k + 1) u6v (bs [44])).bind fun u59 => if Z36 (u2d ++ (bs [40])) u59 then (if Z36 ((u2d ++ (bs [40])) ++ u59) (bs [41]) then some (((u2d ++ (bs [40])) ++ u59) ++ (bs [41])) else none) else none else none : Option ByteArray) = some r ∧ r.size ≤ 120 * (nT x + 1) := by
      obtain ⟨l', f1, f3, f4⟩ := kids (k := k + 1) (X := Z40 (k + 1)) H1 hx hkids (by omega) (by omega) (k + 1) 0 [] (by omega) (by omega) rfl
      rw [show ((0 : Nat) : Int) = 0 from rfl] at f1
      have j0 : (Zcy [] (bs [44])).size = 0 := rfl
      rw [List.drop_zero, j0] at f4
      rw [f1, obs]
      show ∃ r, ((Z48 (k + 1) x.gn).bind _) = some r ∧ _
      rw [t2, obs, if_pos (so (by rw [z1]; omega))]
      unfold Z78
      rw [if_pos ⟨by omega, by omega⟩, obs, if_pos (so (by rw [ByteArray.size_append, z1]; omega)), if_pos (so (by rw [ByteArray.size_append, ByteArray.size_append, z1, z1]; omega))]
      exact ⟨_, rfl, by simp only [ByteArray.size_append, z1]; omega⟩
     have fin2 : ∀ b : Bool, (b = true → x.ga.length = 2) → ∃ r, (if b = true then (Z40 (k + 1) x).bind fun zx => some zx else ((Ze (k + 1) (Z4s (k + 1)) (Z40 (k + 1)) x (k + 1) [] 0).bind fun out3 => match out3 with
       | .ret r => some r
       | .done u6v => (Z48 (k + 1) x.gn).bind fun u2d => if Z36 u2d (bs [40]) then (Z78 (k + 1) u6v (bs [44])).bind fun u59 => if Z36 (u2d ++ (bs [40])) u59 then (if Z36 ((u2d ++ (bs [40])) ++ u59) (bs [41]) then some (((u2d ++ (bs [40])) ++ u59) ++ (bs [41])) else none) else none else none : Option ByteArray)) = some r ∧ r.size ≤ 120 * (nT x + 1) := fun b hb => by
      cases b with
      | false => rw [if_neg Bool.false_ne_true]; exact rest
      | true =>
       rw [if_pos rfl]
       have h2 := hb rfl
       match hkx : x.ga, h2 with
       | [u, v], _ =>
        have x0 : at' x.ga 0 = some u := by rw [hkx]; rfl
        have x1 : at' x.ga 1 = some v := by rw [hkx]; rfl
        rw [hkx] at hkn
        simp only [nsum] at hkn
        obtain ⟨r, e1, e3⟩ := H3 u _ (Zhm hx (by rw [hkx]; simp)) (by omega)
        obtain ⟨q, e4, e5⟩ := H3 v _ (Zhm hx (by rw [hkx]; simp)) (by omega)
        rw [Z40]
        rw [x0, obs, e1, obs, if_pos (so (by simp only [z1]; omega)), if_pos (so (by simp only [ByteArray.size_append, z1]; omega)), u2, obs, if_pos (so (by simp only [ByteArray.size_append, z1]; omega)), if_pos (so (by simp only [ByteArray.size_append, z1]; omega)), x1, obs, e4, obs, if_pos (so (by simp only [ByteArray.size_append, z1]; omega)), if_pos (so (by simp only [ByteArray.size_append, z1]; omega)), obs]
        exact ⟨_, rfl, by simp only [ByteArray.size_append, z1]; omega⟩
     cases hi : i.2 with
     | false => rw [if_neg Bool.false_ne_true, obs]; exact fin2 false (fun h => by cases h)
     | true =>
      rw [if_pos rfl, if_pos (by rw [beq_iff_eq]; exact k4), obs]
      exact fin2 _ (fun h => by have : (x.ga.length : Int) = 2 := (by simpa using h); omega)
theorem Z11e {k : Nat} (hk : maxLen + 1000000 < k) {x : Gt} (hx : x.ok) (h : gT 1 x = true) (hn : nT x ≤ 400) : ∃ r, Z74 k x = some r ∧ r.size ≤ 60000 := by
 unfold Z74
 rw [Zgu hk ⟨hx, by omega⟩, obs]
 split
 ·exact ⟨_, rfl, Nat.zero_le _⟩
 ·obtain ⟨r, e, hr⟩ := Zu4 400 (Nat.le_refl _) k (Nat.lt_of_le_of_lt (by omega) hk) x 1 h hn
  rw [e]
  exact ⟨r, rfl, by omega⟩
def mem (s : Gs) (u : Gu) (v : Int) : Gs := Gs.mk s.gDb u v s.gl s.gw s.gh s.gc s.gf s.gv
def grow (l : List Gt) (v : Nat) : List Gt := (l ++ List.replicate (v - l.length) Z0).take v
theorem Z6f (l : List Gt) (v : Nat) : (grow l v).length = v := by unfold grow; simp; omega
theorem Zdk {l : List Gt} (h : AllB l) (v : Nat) : AllB (grow l v) := fun z hz => by
 rcases List.mem_append.1 (List.mem_of_mem_take hz) with h1 | h1
 ·exact h z h1
 ·rw [List.eq_of_mem_replicate h1]; exact Zpx
def wipe : List Gt → List Int → List Gt
 | l, [] => l
 | l, n :: ns => wipe (l.set n.toNat Z0) ns
theorem Zrh : ∀ (ns : List Int) (l : List Gt), (wipe l ns).length = l.length
 | [], l => rfl
 | n :: ns, l => by rw [wipe, Zrh ns]; simp
theorem Zin : ∀ (ns : List Int) (l : List Gt), AllB l → AllB (wipe l ns)
 | [], l, h => h
 | n :: ns, l, h => Zin ns _ (h.set _ Zpx)
theorem Zyv {k : Nat} {v : Nat} (hv : v ≤ 300000) : ∀ (m : Nat) (s : Gs), s.gU.ge.length ≤ 300000 → v - s.gU.ge.length < m →
  Z4h k (v : Int) m s = some (.done (mem s ⟨s.gU.ge ++ List.replicate (v - s.gU.ge.length) Z0, s.gU.gd, s.gU.gu⟩ s.gk))
 | 0, s, h1, h2 => by omega
 | m + 1, s, h1, h2 => by
  unfold Z4h
  by_cases hlt : s.gU.ge.length < v
  ·rw [if_pos (by simpa using hlt), if_pos (by simp; omega), Z4c (show s.gU.ge.length < (s.gU.ge ++ [Gt.mk 0 (bs []) 0 []]).length by simp), obs]
   have e : (s.gU.ge ++ [Gt.mk 0 (bs []) 0 []]).set (((s.gU.ge.length : Int)).toNat) (Gt.mk 0 (bs []) 0 []) = s.gU.ge ++ [Z0] := by simp [Z0]
   rw [e, Zyv hv m _ (by simp; omega) (by simp; omega)]
   obtain ⟨q, hq⟩ : ∃ q, v - s.gU.ge.length = q + 1 := ⟨v - s.gU.ge.length - 1, by omega⟩
   have e2 : v - (s.gU.ge ++ [Z0]).length = q := by simp; omega
   simp only [e2, hq, List.append_assoc, List.replicate_succ, List.singleton_append]
   rfl
  ·rw [if_neg (by simpa using hlt), show v - s.gU.ge.length = 0 by omega, List.replicate_zero, List.append_nil]
   rfl
theorem useS {k : Nat} (hk : maxLen + 1000000 < k) {v : Nat} (hv : v ≤ 300000) (s : Gs) (hs : s.gU.ge.length ≤ 300000) :
  Z20 k s (v : Int) = some (mem s ⟨grow s.gU.ge v, s.gU.gd, s.gU.gu⟩ v, decide ((v : Int) ≤ 3000)) := by
 unfold Z20
 have hM := Zl
 have e := Zyv (k := k) hv k (mem s s.gU v) hs (by omega)
 show ((Z4h k (v : Int) k (mem s s.gU v)).bind _) = _
 rw [e, obs]
 simp only
 rw [if_pos (by simp [mem]; omega)]
 rfl
theorem Zue {k : Nat} {v3 : Gs} {t N : Nat} (ht : t ≤ v3.gU.gd.length) (hN : N ≤ 300000) (hb : ∀ n ∈ v3.gU.gd, 0 ≤ n ∧ n < (N : Int)) (hl : v3.gU.gd.length ≤ 1000000000) : ∀ (m j : Nat) (s : Gs), s.gU.gd = v3.gU.gd → s.gU.ge.length = N →
  t + j ≤ v3.gU.gd.length → v3.gU.gd.length - t - j < m →
  Z4z k v3 (t : Int) m (j : Int) s = some (.done (mem s ⟨wipe s.gU.ge (v3.gU.gd.drop (t + j)), s.gU.gd, s.gU.gu⟩ s.gk))
 | 0, j, s, h1, h2, h3, h4 => by omega
 | m + 1, j, s, h1, h2, h3, h4 => by
  have hM := Zl
  unfold Z4z
  have e1 : (((List.map cI.i64 v3.gU.gd).length : Int)).toNat - ((t : Int)).toNat = v3.gU.gd.length - t := by simp
  rw [e1]
  by_cases hlt : t + j < v3.gU.gd.length
  ·rw [if_pos (by simp; omega), if_pos ⟨by omega, by simp; omega⟩, Int.toNat_natCast, Int.toNat_natCast, h1, List.getElem?_eq_getElem hlt, obs]
   obtain ⟨b1, b2⟩ := hb _ (List.getElem_mem hlt)
   obtain ⟨hn, e⟩ := Zsr (l := s.gU.ge) b1 (by omega)
   rw [e, obs, Z3v (show j < v3.gU.gd.length by omega) (by omega)]
   have ih := Zue (k := k) ht hN hb hl m (j + 1) (mem s ⟨s.gU.ge.set (v3.gU.gd[t + j]).toNat Z0, v3.gU.gd, s.gU.gu⟩ s.gk) rfl (by simp [mem, h2]) (by omega) (by omega)
   rw [List.drop_eq_getElem_cons hlt, wipe]
   exact ih
  ·rw [if_neg (by simp; omega), List.drop_of_length_le (by omega), wipe]
   rfl
theorem Zuf {k : Nat} (hk : maxLen + 1000000 < k) {t v : Nat} (hv : v ≤ 300000) (s : Gs) (hs : s.gU.ge.length ≤ 300000) (ht : t ≤ s.gU.gd.length) (hb : ∀ n ∈ s.gU.gd, 0 ≤ n ∧ n < (s.gU.ge.length : Int)) (hl : s.gU.gd.length ≤ 1000000000) :
  Z1b k s (t : Int) (v : Int) = some (mem s ⟨grow (wipe s.gU.ge (s.gU.gd.drop t)) v, s.gU.gd.take t, s.gU.gu⟩ v) := by
 have hM := Zl
 unfold Z1b
 have e := Zue (k := k) (v3 := s) ht hs hb hl k 0 s rfl rfl (by omega) (by omega)
 rw [show ((0 : Nat) : Int) = 0 from rfl] at e
 rw [if_pos ⟨by omega, by omega, by omega⟩, e, obs]
 simp only
 rw [if_pos ⟨by omega, by simp [mem]; omega⟩, useS hk hv _ (by simp [mem, Zrh]; exact hs), obs]
 rfl
def Did (U : Gu) (R : Gs → Option (Gs × Bool)) : Prop := ∃ u b, (∀ s, s.gU = U → R s = some (mem s u s.gk, b)) ∧ u.ge.length = U.ge.length ∧ AllB u.ge ∧
 (∃ e, u.gd = U.gd ++ e ∧ (∀ n ∈ e, 0 ≤ n ∧ n < (U.ge.length : Int)) ∧ (e.length : Int) ≤ u.gu - U.gu) ∧ U.gu + 1 ≤ u.gu ∧ u.gu ≤ 2001 ∧ (b = true → u.gu ≤ 2000)
def UOk (U : Gu) : Prop := U.ge.length ≤ 300000 ∧ AllB U.ge ∧ 0 ≤ U.gu ∧ U.gu ≤ 2000 ∧ (U.gd.length : Int) ≤ 900000000 + U.gu
theorem Z12v {k : Nat} (hk : maxLen + 1000000 < k) {U : Gu} {n : Int} {x : Gt} (hU : U.ge.length ≤ 300000) (ha : AllB U.ge) (hx : BigT x) (hb : U.gd.length ≤ 1000000000) :
  ∃ u b, (∀ s, s.gU = U → Z15 k s n x = some (mem s u s.gk, b)) ∧ u.ge.length = U.ge.length ∧ AllB u.ge ∧ u.gu = U.gu ∧ ∃ e, u.gd = U.gd ++ e ∧ (∀ n ∈ e, 0 ≤ n ∧ n < (U.ge.length : Int)) ∧ e.length ≤ 1 := by
 have no : ∀ R : Gs → Option (Gs × Bool), (∀ s, s.gU = U → R s = some (s, false)) → ∃ u b, (∀ s, s.gU = U → R s = some (mem s u s.gk, b)) ∧ u.ge.length = U.ge.length ∧ AllB u.ge ∧ u.gu = U.gu ∧ ∃ e, u.gd = U.gd ++ e ∧ (∀ n ∈ e, 0 ≤ n ∧ n < (U.ge.length : Int)) ∧ e.length ≤ 1 := fun R h =>
  ⟨U, false, fun s hs => by rw [h s hs, ← hs]; rfl, rfl, ha, rfl, [], by simp, by simp, by simp⟩
 have f := Zjw hk (l := U.ge) (by omega) ha hx
 obtain ⟨h, e⟩ := hasT k (fP U.ge x).1 n (Zly ha hx) (Z11b hk (by have := (Zly ha hx).2.1; omega))
 cases h1 : (fP U.ge x).2 with
 | false => exact no _ fun s hs => by unfold Z15; rw [hs, f, obs, h1, if_pos (by rfl)]
 | true =>
  cases h with
  | true => exact no _ fun s hs => by unfold Z15; rw [hs, f, obs, h1, if_neg (by decide), e, obs, if_pos rfl]
  | false =>
   have w : ∀ s : Gs, s.gU = U → Z15 k s n x = if (!inR n 0 ((U.ge.length : Int) - 1)) = true then some (s, false) else (at' U.ge n).bind fun ul => if U.gd.length + [n].length ≤ 1073741824 then some (mem s ⟨U.ge.set n.toNat x, U.gd ++ [n], U.gu⟩ s.gk, true) else none := fun s hs => by
    unfold Z15
    rw [hs, f, obs, h1, if_neg (by decide), e, obs, if_neg (by decide), Zfa, Z4w (by omega) (by omega), obs]
    rfl
   by_cases hin : 0 ≤ n ∧ n ≤ (U.ge.length : Int) - 1
   ·obtain ⟨hn, e2⟩ := Zsr (l := U.ge) hin.1 (by omega)
    refine ⟨⟨U.ge.set n.toNat x, U.gd ++ [n], U.gu⟩, true, fun s hs => ?_, by simp, ha.set _ hx, rfl, [n], rfl, fun m hm => ?_, by simp⟩
    ·rw [w s hs, Z10t hin, if_neg (by decide), e2, obs, if_pos (by simp; omega)]
    ·rw [List.mem_singleton.1 hm]; omega
   ·exact no _ fun s hs => by rw [w s hs, Z10u hin, if_pos (by rfl)]
theorem Zri {k : Nat} {f : Gs → Gt → Gt → Option (Gs × Bool)} {x y : List Gt × Gt} {p : Int} (hx : BigT x.2) (hy : BigT y.2) (hxy : x.2.ga.length = y.2.ga.length)
  (hf : ∀ (U : Gu) (a b : Gt), BigT a → BigT b → UOk U → p ≤ U.gu → Did U (fun s => f s a b)) :
  ∀ (m j : Nat) (U : Gu), j ≤ x.2.ga.length → x.2.ga.length - j < m → UOk U → p ≤ U.gu →
   ∃ u b, (∀ s, s.gU = U → Z1m k f x y m (j : Int) s = some (if b = true then .done (mem s u s.gk) else .ret (mem s u s.gk, false))) ∧ u.ge.length = U.ge.length ∧ AllB u.ge ∧
    (∃ e, u.gd = U.gd ++ e ∧ (∀ n ∈ e, 0 ≤ n ∧ n < (U.ge.length : Int)) ∧ (e.length : Int) ≤ u.gu - U.gu) ∧ U.gu ≤ u.gu ∧ u.gu ≤ 2001 ∧ (b = true → u.gu ≤ 2000)
 | 0, j, U, h1, h2, h3, h4 => by omega
 | m + 1, j, U, h1, h2, h3, h4 => by
  have hm : x.2.ga.length ≤ maxLen := by have := Z6h hx; rw [Zl]; omega
  by_cases hlt : j < x.2.ga.length
  ·obtain ⟨u, b, e1, g1, g2, ⟨q, q1, q2, q3⟩, g4, g5, g6⟩ := hf U x.2.ga[j] (y.2.ga[j]'(by omega)) (Z98 hx (List.getElem_mem hlt)) (Z98 hy (List.getElem_mem (by omega))) h3 h4
   have st : ∀ s, s.gU = U → Z1m k f x y (m + 1) (j : Int) s = if (!b) = true then some (.ret (mem s u s.gk, false)) else Z1m k f x y m ((j + 1 : Nat) : Int) (mem s u s.gk) := fun s hs => by
    rw [Z1m, if_pos (by simpa using hlt), Z4c hlt, Z4c (l := y.2.ga) (by omega), obs, obs, show f s x.2.ga[j] (y.2.ga[j]'(by omega)) = some (mem s u s.gk, b) from e1 s hs, obs, Z3v hlt hm]
   cases b with
   | false => exact ⟨u, false, fun s hs => by rw [st s hs]; rfl, g1, g2, ⟨q, q1, q2, q3⟩, by omega, g5, fun h => by cases h⟩
   | true =>
    have g6 := g6 rfl
    obtain ⟨o1, o2, o3, o4, o5⟩ := h3
    obtain ⟨u', b', e2, r1, r2, ⟨q', t1, t2, t3⟩, r4, r5, r6⟩ := Zri hx hy hxy hf m (j + 1) u (by omega) (by omega) ⟨by omega, g2, by omega, g6, by rw [q1]; simp; omega⟩ (by omega)
    refine ⟨u', b', fun s hs => ?_, by omega, r2, ⟨q ++ q', by rw [t1, q1, List.append_assoc], fun n hn => ?_, by simp; omega⟩, by omega, r5, r6⟩
    ·rw [st s hs, if_neg (by decide), e2 _ rfl]; rfl
    ·rcases List.mem_append.1 hn with hn | hn
     ·exact q2 n hn
     ·rw [← g1]; exact t2 n hn
  ·refine ⟨U, true, fun s hs => ?_, rfl, h3.2.1, ⟨[], by simp, by simp, by simp⟩, Int.le_refl _, by have := h3.2.2.2.1; omega, fun _ => h3.2.2.2.1⟩
   unfold Z1m
   rw [if_neg (by simpa using hlt), ← hs]
   rfl
theorem Zud : ∀ (k : Nat) (U : Gu) (x y : Gt), UOk U → BigT x → BigT y → maxLen + 1000000 + (2002 - U.gu.toNat) < k → Did U (fun s => Z7 k s x y)
 | 0, U, x, y, hU, hx, hy, hk => absurd hk (Nat.not_lt_zero _)
 | k + 1, U, x, y, hU, hx, hy, hk => by
  obtain ⟨hl, ha, h0, h1, h2⟩ := hU
  have hw : wr.i64 (U.gu + 1) = U.gu + 1 := Z4w (by omega) (by omega)
  obtain ⟨A, hA⟩ : ∃ A, A = maxLen + 1000000 := ⟨_, rfl⟩
  rw [← hA] at hk
  have hk1 : maxLen + 1000000 < k := by rw [← hA]; omega
  have hk0 : maxLen < k := kk1 hk1
  obtain ⟨U1, hU1⟩ : ∃ U1 : Gu, U1 = ⟨U.ge, U.gd, U.gu + 1⟩ := ⟨_, rfl⟩
  have l1 : U1.ge = U.ge := by rw [hU1]
  have l2 : U1.gd = U.gd := by rw [hU1]
  have l3 : U1.gu = U.gu + 1 := by rw [hU1]
  have stay : ∀ (b : Bool) (R : Gs → Option (Gs × Bool)), (b = true → U.gu + 1 ≤ 2000) → (∀ s, s.gU = U → R s = some (mem s U1 s.gk, b)) → Did U R := fun b R hb h =>
   ⟨U1, b, h, by rw [l1], by rw [l1]; exact ha, ⟨[], by rw [l2]; simp, by simp, by rw [l3]; simp; omega⟩, by rw [l3]; omega, by rw [l3]; omega, fun hq => by rw [l3]; exact hb hq⟩
  by_cases c1 : U.gu + 1 > 2000
  ·refine stay false _ (fun h => by cases h) fun s hs => ?_
   show Z7 (k + 1) s x y = _
   unfold Z7
   rw [hs, hw, if_pos (by simpa using c1), hU1]
   rfl
  have hx' : BigT (wk 5000 U.ge x) := Zpz ha 5000 x hx
  have hy' : BigT (wk 5000 U.ge y) := Zpz ha 5000 y hy
  have J : ∀ s : Gs, s.gU = U → Z7 (k + 1) s x y = if ((wk 5000 U.ge x).gi == 1) = true then Z1f k (Z7 k) (U.ge, wk 5000 U.ge x) (U.ge, wk 5000 U.ge y) s ((wk 5000 U.ge y).gi == 1) else Z1f k (Z7 k) (U.ge, wk 5000 U.ge x) (U.ge, wk 5000 U.ge y) s false := fun s hs => by
   rw [Z7, hs, hw, if_neg (by simpa using c1), (Zq0 hk0 (l := U.ge) (by omega) x).2, obs]
   show ((Z1y k U.ge y).bind _) = _
   rw [(Zq0 hk0 (l := U.ge) (by omega) y).2, obs]
  clear hx hy
  generalize wk 5000 U.ge x = x' at hx' J
  generalize wk 5000 U.ge y = y' at hy' J
  have bd : ∀ n z, BigT z → Did U (fun s => (Z15 k (mem s U1 s.gk) n z).bind fun r => some (r.1, r.2)) := fun n z hz => by
   obtain ⟨u, b, e, q1, q2, q3, w, q4, q5, q6⟩ := Z12v hk1 (U := U1) (n := n) (by rw [l1]; exact hl) (by rw [l1]; exact ha) hz (by rw [l2]; omega)
   rw [l1] at q1 q5
   rw [l2] at q4
   rw [l3] at q3
   exact ⟨u, b, fun s hs => by show (Z15 k (mem s U1 s.gk) n z).bind _ = _; rw [e _ rfl]; rfl, q1, q2, ⟨w, q4, q5, by omega⟩, by omega, by omega, fun _ => by omega⟩
  have Did.of : ∀ {R R' : Gs → Option (Gs × Bool)}, Did U R' → (∀ s, s.gU = U → R s = R' s) → Did U R := fun ⟨u, b, e, r⟩ h => ⟨u, b, fun s hs => by rw [h s hs, e s hs], r⟩
  have JJ : ∀ g : Bool, Did U (fun s => Z1f k (Z7 k) (U.ge, x') (U.ge, y') s g) := fun g => by
   have e : ∀ s, s.gU = U → Gs.mk s.gDb (Gu.mk U.ge s.gU.gd (wr.i64 (s.gU.gu + 1))) s.gk s.gl s.gw s.gh s.gc s.gf s.gv = mem s U1 s.gk := fun s hs => by rw [hs, hw, hU1]; rfl
   have e2 : (fun s => Z1f k (Z7 k) (U.ge, x') (U.ge, y') s g) = fun s => Z1f k (Z7 k) (U.ge, x') (U.ge, y') s g := rfl
   unfold Z1f
   cases g with
   | true =>
    by_cases d1 : x'.gj = y'.gj
    ·exact stay true _ (fun _ => by omega) fun s hs => by simp only [if_true, e s hs]; rw [if_pos (by simpa using d1)]
    ·by_cases d2 : x'.gj < y'.gj
     ·exact Did.of (bd y'.gj x' hx') fun s hs => by simp only [if_true, e s hs]; rw [if_neg (by simpa using d1), if_pos (by simpa using d2)]
     ·exact Did.of (bd x'.gj y' hy') fun s hs => by simp only [if_true, e s hs]; rw [if_neg (by simpa using d1), if_neg (by simpa using d2)]
   | false =>
    by_cases d1 : x'.gi = 1
    ·exact Did.of (bd x'.gj y' hy') fun s hs => by simp only [Bool.false_eq_true, if_false, e s hs]; rw [if_pos (by simpa using d1)]
    by_cases d2 : y'.gi = 1
    ·exact Did.of (bd y'.gj x' hx') fun s hs => by simp only [Bool.false_eq_true, if_false, e s hs]; rw [if_neg (by simpa using d1), if_pos (by simpa using d2)]
    by_cases d3 : ¬ x'.gi = y'.gi
    ·exact stay false _ (fun h => by cases h) fun s hs => by simp only [Bool.false_eq_true, if_false, e s hs]; rw [if_neg (by simpa using d1), if_neg (by simpa using d2), if_pos (by simpa using d3)]
    cases d4 : sEq x'.gn y'.gn with
    | false => exact stay false _ (fun h => by cases h) fun s hs => by simp only [Bool.false_eq_true, if_false, e s hs, d4]; rw [if_neg (by simpa using d1), if_neg (by simpa using d2), if_neg (by simpa using d3), if_pos (by rfl)]
    | true =>
     by_cases d5 : ¬ x'.gj = y'.gj
     ·exact stay false _ (fun h => by cases h) fun s hs => by simp only [Bool.false_eq_true, if_false, e s hs, d4]; rw [if_neg (by simpa using d1), if_neg (by simpa using d2), if_neg (by simpa using d3), if_neg (by decide), if_pos (by simpa using d5)]
     by_cases d6 : ¬ x'.ga.length = y'.ga.length
     ·exact stay false _ (fun h => by cases h) fun s hs => by simp only [Bool.false_eq_true, if_false, e s hs, d4]; rw [if_neg (by simpa using d1), if_neg (by simpa using d2), if_neg (by simpa using d3), if_neg (by decide), if_neg (by simpa using d5), if_pos (by simp; omega)]
     have d6 := Decidable.not_not.1 d6
     have hkk := Z6h hx'
     obtain ⟨u, b, q1, q2, q3, ⟨w, q4, q5, q6⟩, q7, q8, q9⟩ := Zri (k := k) (f := Z7 k) (x := (U.ge, x')) (y := (U.ge, y')) (p := U.gu + 1) hx' hy' d6 (fun V a b qa qb hV hp => Zud k V a b hV qa qb (by rw [← hA]; omega))
      k 0 U1 (Nat.zero_le _) (by have hM := Zl; show x'.ga.length - 0 < k; omega) ⟨by rw [l1]; exact hl, by rw [l1]; exact ha, by rw [l3]; omega, by rw [l3]; omega, by rw [l2, l3]; omega⟩ (by rw [l3]; omega)
     rw [l1] at q2 q5
     rw [l2] at q4
     rw [l3] at q6 q7
     rw [show ((0 : Nat) : Int) = 0 from rfl] at q1
     refine ⟨u, b, fun s hs => ?_, q2, q3, ⟨w, q4, q5, by omega⟩, q7, q8, q9⟩
     simp only [Bool.false_eq_true, if_false, e s hs, d4]
     rw [if_neg (by simpa using d1), if_neg (by simpa using d2), if_neg (by simpa using d3), if_neg (by decide), if_neg (by simpa using d5), if_neg (by simp; omega), q1 _ rfl]
     cases b <;> rfl
  by_cases d : x'.gi = 1
  ·exact Did.of (JJ _) fun s hs => by show Z7 (k + 1) s x y = _; rw [J s hs, if_pos (by simpa using d)]
  ·exact Did.of (JJ _) fun s hs => by show Z7 (k + 1) s x y = _; rw [J s hs, if_neg (by simpa using d)]
theorem Zrj {k : Nat} (hk : maxLen + 1100000 < k) {U : Gu} {V : Nat} (hV : V ≤ 300000) (hl : U.ge.length = V) (ha : AllB U.ge) (hb : ∀ n ∈ U.gd, 0 ≤ n ∧ n < (V : Int)) (hbl : U.gd.length ≤ 900000000) {x y : Gt} (hx : MidT x) (hy : MidT y) :
  ∃ u b, (∀ s, s.gU = U → s.gk = (V : Int) → Z10 k s x y = some (mem s u V, b)) ∧ u.ge.length = V ∧ AllB u.ge ∧ (∃ e, u.gd = U.gd ++ e ∧ (∀ n ∈ e, 0 ≤ n ∧ n < (V : Int)) ∧ e.length ≤ 2001) ∧ (b = false → u.gd = U.gd) := by
 have hk1 : maxLen + 1000000 < k := Nat.lt_of_le_of_lt (Nat.add_le_add_left (by decide) _) hk
 obtain ⟨U0, hU0⟩ : ∃ U0 : Gu, U0 = ⟨U.ge, U.gd, 0⟩ := ⟨_, rfl⟩
 have back : ∀ (R : Gs → Option (Gs × Bool)) (u : Gu) (e : List Int), u.ge.length = V → AllB u.ge → u.gd = U.gd ++ e → (∀ n ∈ e, 0 ≤ n ∧ n < (V : Int)) → e.length ≤ 2001 → (∀ s, s.gU = U → s.gk = (V : Int) → R s = Z2i k s (mem s u V)) →
   ∃ u b, (∀ s, s.gU = U → s.gk = (V : Int) → R s = some (mem s u V, b)) ∧ u.ge.length = V ∧ AllB u.ge ∧ (∃ e, u.gd = U.gd ++ e ∧ (∀ n ∈ e, 0 ≤ n ∧ n < (V : Int)) ∧ e.length ≤ 2001) ∧ (b = false → u.gd = U.gd) := fun R u e g1 g2 g3 g4 g5 h => by
  refine ⟨⟨grow (wipe u.ge (u.gd.drop U.gd.length)) V, u.gd.take U.gd.length, u.gu⟩, false, fun s hs hv => ?_, Z6f _ _, Zdk (Zin _ _ g2) _, ⟨[], by simp [g3], by simp, by simp⟩, fun _ => by simp [g3]⟩
  rw [h s hs hv]
  unfold Z2i
  rw [hs, show (mem s u (V : Int)).gk = (V : Int) from rfl, Zuf hk1 (t := U.gd.length) hV (mem s u V) (by show u.ge.length ≤ 300000; omega) (by show U.gd.length ≤ u.gd.length; rw [g3]; simp) (by
   show ∀ n ∈ u.gd, 0 ≤ n ∧ n < (u.ge.length : Int)
   rw [g3, g1]
   intro n hn
   rcases List.mem_append.1 hn with hn | hn
   ·exact hb n hn
   ·exact g4 n hn) (by show u.gd.length ≤ 1000000000; rw [g3]; simp; omega), obs]
  rfl
 have e0 : ∀ s, s.gU = U → s.gk = (V : Int) → Gs.mk s.gDb (Gu.mk s.gU.ge s.gU.gd 0) s.gk s.gl s.gw s.gh s.gc s.gf s.gv = mem s U0 V := fun s hs hv => by rw [hs, hv, hU0]; rfl
 have z1 : U0.ge = U.ge := by rw [hU0]
 have z2 : U0.gd = U.gd := by rw [hU0]
 have z3 : U0.gu = 0 := by rw [hU0]
 have no : ∀ R : Gs → Option (Gs × Bool), (∀ s, s.gU = U → s.gk = (V : Int) → R s = Z2i k s (mem s U0 V)) → _ := fun R h => back R U0 [] (by rw [z1, hl]) (by rw [z1]; exact ha) (by rw [z2]; simp) (by simp) (by simp) h
 cases tx : tOk x with
 | false => exact no _ fun s hs hv => by unfold Z10; rw [Zgu hk1 hx, obs, tx, if_neg (by decide), e0 s hs hv]
 | true =>
  cases ty : tOk y with
  | false => exact no _ fun s hs hv => by unfold Z10; rw [Zgu hk1 hx, obs, tx, if_pos rfl, Zgu hk1 hy, obs, ty, if_neg (by decide), e0 s hs hv]
  | true =>
   obtain ⟨u, b, q1, q2, q3, ⟨e, q4, q5, q6⟩, q7, q8, q9⟩ := Zud k U0 x y ⟨by rw [z1]; omega, by rw [z1]; exact ha, by omega, by omega, by rw [z2, z3]; omega⟩ (Zd2 hx.1 tx) (Zd2 hy.1 ty) (by
    rw [z3]
    refine Nat.lt_of_le_of_lt ?_ hk
    rw [Nat.add_assoc]
    exact Nat.add_le_add_left (by decide) _)
   rw [z1] at q2 q5
   rw [z2] at q4
   rw [z3] at q6
   have w : ∀ s, s.gU = U → s.gk = (V : Int) → Z10 k s x y = if b = true then some (mem s u V, true) else Z2i k s (mem s u V) := fun s hs hv => by
    unfold Z10
    rw [Zgu hk1 hx, obs, tx, if_pos rfl, Zgu hk1 hy, obs, ty, if_pos rfl, e0 s hs hv, show Z7 k (mem s U0 V) x y = some (mem (mem s U0 V) u V, b) from q1 _ rfl, obs]
    rfl
   cases b with
   | true => exact ⟨u, true, fun s hs hv => by rw [w s hs hv, if_pos rfl], by omega, q3, ⟨e, q4, by rw [hl] at q5; exact q5, by omega⟩, fun h => by cases h⟩
   | false => exact back _ u e (by omega) q3 q4 (by rw [hl] at q5; exact q5) (by omega) fun s hs hv => by rw [w s hs hv, if_neg (by decide)]
def GoT (x : Gt) : Prop := MidT x ∧ Nm x ∧ ∀ y ∈ x.ga, BigT y
theorem BigT.go {x : Gt} (h : BigT x) : GoT x := ⟨h.mid, h.2.2, fun _ hy => Z98 h hy⟩
structure Sim where
 B : Gf
 E : List Gp
 F : Gf
 lim : Int
 ds : Int
def Sim.c (S : Sim) : Int := (S.E.length : Int)
mutual
def fF (S : Sim) : Gf → Gf
 | .nil => S.B
 | .mk k g m c n => .mk k g (if k = 3 then m else m + S.c) (fC S c) (fF S n)
def fC (S : Sim) : Ga → Ga
 | .nil => .nil
 | .mk p t v g b h m n => .mk (p + S.c) t v g b h (m + S.c) (fF S n)
end
def sG (S : Sim) (f : Gf) : Gf := match f.isNil with | true => f | false => fF S f
def sP (S : Sim) (p : Gp) : Gp := Gp.mk (p.gAt + S.c) p.gL p.gk (sG S p.gh) p.gN p.gF (match p.gF.isEmpty with | true => p.gM | false => fF S p.gM)
def sO (o : Gw) : Gw := Gw.mk [] o.gz o.gx o.gf o.gDb o.gl
def sS (S : Sim) (s : Gs) : Gs := Gs.mk s.gDb s.gU s.gk (s.gl + S.ds) S.lim (fF S s.gh) (S.E ++ s.gc.map (sP S)) (sO s.gf) s.gv
def setG (s : Gs) (g : Gf) : Gs := Gs.mk s.gDb s.gU s.gk s.gl s.gw g s.gc s.gf s.gv
def setP (s : Gs) (P : List Gp) : Gs := Gs.mk s.gDb s.gU s.gk s.gl s.gw s.gh P s.gf s.gv
def Z8i (s : Gs) (e : Int) : Gs := Gs.mk s.gDb s.gU s.gk s.gl s.gw s.gh s.gc (Gw.mk s.gf.gp e s.gf.gx s.gf.gf s.gf.gDb s.gf.gl) true
def Zbb (s : Gs) (g : Gt) (m : Int) : Gs := setG s (.mk 1 g m .nil s.gh)
theorem Zui (k : Nat) (s : Gs) (e : Int) : Z1g k s e = some (Z8i s e) := rfl
theorem Z10b (k : Nat) (s : Gs) (g : Gt) (m : Int) : Z1q k s g m = some (Zbb s g m) := rfl
theorem Z139 (S : Sim) (s : Gs) (e : Int) : sS S (Z8i s e) = Z8i (sS S s) e := rfl
theorem Z13m (S : Sim) (s : Gs) (u : Gu) (v : Int) : sS S (mem s u v) = mem (sS S s) u v := rfl
theorem Zq9 (S : Sim) (s : Gs) (g : Gf) : sS S (setG s g) = setG (sS S s) (fF S g) := rfl
theorem Z9s (S : Sim) (s : Gs) (g : Gt) (m : Int) : sS S (Zbb s g m) = Zbb (sS S s) g (m + S.c) := by
 unfold Zbb
 rw [Zq9, fF, if_neg (by decide), fC]
 rfl
theorem Zff (S : Sim) (s : Gs) : ((sS S s).gc.length : Int) = (s.gc.length : Int) + S.c := by
 show ((S.E ++ s.gc.map (sP S)).length : Int) = _
 unfold Sim.c
 rw [List.length_append, List.length_map]
 omega
theorem Zq8 (S : Sim) (P : List Gp) (n : Nat) : (S.E ++ P.map (sP S)).take (n + S.E.length) = S.E ++ (P.take n).map (sP S) := by
 rw [Nat.add_comm, List.take_length_add_append, List.map_take]
inductive FOk (m : Nat) (b : List Int) (P : List Gp) : Nat → Nat → Nat → Gf → Prop where
 | nil {t n D : Nat} : FOk m b P t n D .nil
 | go {t n D : Nat} {k : Int} {g : Gt} {a : Nat} {nx : Gf} : (k = 1 ∨ k = 2) → GoT g → a ≤ n → FOk m b P t a D nx → FOk m b P t n (D + 1) (.mk k g (a : Int) .nil nx)
 | dn {t n D : Nat} {g : Gt} {a u v : Nat} {gg : Gf} {bl th : Gt} {a2 : Nat} {bh nx : Gf} : a ≤ n → u ≤ t → u ≤ 2001 * m → (∀ x ∈ b.take u, x < (v : Int)) → v ≤ 3000 → (∀ p ∈ P.take a, p.gL ≤ (u : Int)) → BigT bl → BigT th → a2 ≤ a →
   FOk m b P u a2 (3 * m + 1) bh → FOk m b P u a D nx → FOk m b P t n (D + 1) (.mk 3 g 0 (.mk (a : Int) (u : Int) (v : Int) gg bl th (a2 : Int) bh) nx)
theorem Zaw {α : Type} {l l' : List α} {n a : Nat} (h : l'.take n = l.take n) (ha : a ≤ n) : l'.take a = l.take a := by
 have := congrArg (List.take a) h
 rwa [List.take_take, List.take_take, Nat.min_eq_left ha] at this
theorem FOk.other {m m' : Nat} {b b' : List Int} {P P' : List Gp} (hm : m ≤ m') {t n D : Nat} {f : Gf} (h : FOk m b P t n D f) : ∀ {t' n' D' : Nat}, b'.take t = b.take t → P'.take n = P.take n → t ≤ t' → n ≤ n' → D ≤ D' → FOk m' b' P' t' n' D' f := by
 induction h with
 | nil => intros; exact .nil
 | @go t n D k g a nx h1 h2 h3 h4 ih =>
  intro t' n' D' hb hP ht hn hD
  obtain ⟨q, rfl⟩ : ∃ q, D' = q + 1 := ⟨D' - 1, by omega⟩
  exact .go h1 h2 (by omega) (ih hb (Zaw hP h3) ht (Nat.le_refl _) (by omega))
 | @dn t n D g a u v gg bl th a2 bh nx h1 h2 h3 h4 h5 h6 h7 h8 h9 h10 h11 ih1 ih2 =>
  intro t' n' D' hb hP ht hn hD
  obtain ⟨q, rfl⟩ : ∃ q, D' = q + 1 := ⟨D' - 1, by omega⟩
  exact .dn (by omega) (by omega) (by omega) (by rw [Zaw hb h2]; exact h4) h5 (by rw [Zaw hP h1]; exact h6) h7 h8 h9
   (ih1 (Zaw hb h2) (Zaw hP (by omega)) (Nat.le_refl _) (Nat.le_refl _) (by omega)) (ih2 (Zaw hb h2) (Zaw hP h1) (Nat.le_refl _) (Nat.le_refl _) (by omega))
structure POk (m : Nat) (b : List Int) (P : List Gp) (i : Nat) (p : Gp) (t v : Nat) : Prop where
 ea : p.gAt = (i : Int)
 et : p.gL = (t : Int)
 ev : p.gk = (v : Int)
 tb : t ≤ b.length
 tm : t ≤ 2001 * m
 vm : v ≤ 3000
 bv : ∀ x ∈ b.take t, x < (v : Int)
 lo : ∀ q ∈ P.take i, q.gL ≤ (t : Int)
 go : (p.gF ≠ [] ∧ p.gh = .nil ∧ p.gF.length ≤ 120 ∧ (∀ c ∈ p.gF, COk c) ∧ GoT p.gN ∧ FOk m b P t i (3 * m + 1) p.gM) ∨ (p.gF = [] ∧ FOk m b P t i (3 * m + 4) p.gh)
theorem POk.other {m m' : Nat} {b b' : List Int} {P P' : List Gp} {i : Nat} {p : Gp} {t v : Nat} (h : POk m b P i p t v) (hm : m ≤ m') (hb : b'.take t = b.take t) (hP : P'.take i = P.take i) (hl : t ≤ b'.length) : POk m' b' P' i p t v where
 ea := h.ea
 et := h.et
 ev := h.ev
 tb := hl
 tm := by have := h.tm; omega
 vm := h.vm
 bv := by rw [hb]; exact h.bv
 lo := by rw [hP]; exact h.lo
 go := by
  rcases h.go with ⟨h1, h2, h3, h4, h5, h6⟩ | ⟨h1, h2⟩
  ·exact .inl ⟨h1, h2, h3, h4, h5, h6.other hm hb hP (Nat.le_refl _) (Nat.le_refl _) (by omega)⟩
  ·exact .inr ⟨h1, h2.other hm hb hP (Nat.le_refl _) (Nat.le_refl _) (by omega)⟩
def OOk (o : Gw) : Prop := (∀ x ∈ o.gp, BigT x) ∧ o.gp.length ≤ 8 ∧ BigT o.gx ∧ o.gf.size ≤ 2000
structure SInv (m : Nat) (s : Gs) : Prop where
 db : DOk s.gDb
 ls : AllB s.gU.ge
 ln : (s.gU.ge.length : Int) = s.gk
 vl : s.gk ≤ 3000
 bd : ∀ x ∈ s.gU.gd, 0 ≤ x ∧ x < s.gk
 pk : ∀ i p, s.gc[i]? = some p → ∃ t v, POk m s.gU.gd s.gc i p t v
 ot : OOk s.gf
 ov : s.gv = false
theorem SInv.goals {m : Nat} {s : Gs} (h : SInv m s) (g : Gf) : SInv m (setG s g) := ⟨h.db, h.ls, h.ln, h.vl, h.bd, h.pk, h.ot, h.ov⟩
theorem SInv.vars {m : Nat} {s : Gs} (h : SInv m s) : ∃ V : Nat, s.gk = (V : Int) ∧ s.gU.ge.length = V ∧ V ≤ 3000 := ⟨s.gU.ge.length, h.ln.symm, rfl, by have := h.ln; have := h.vl; omega⟩
theorem SInv.up {m m' : Nat} {s : Gs} (h : SInv m s) (hm : m ≤ m') : SInv m' s := ⟨h.db, h.ls, h.ln, h.vl, h.bd, fun i p hp => by
 obtain ⟨t, v, q⟩ := h.pk i p hp
 exact ⟨t, v, q.other hm rfl rfl q.tb⟩, h.ot, h.ov⟩
def Full (m e : Nat) (s : Gs) : Prop := SInv m s ∧ s.gU.gd.length ≤ 2001 * (m + e) ∧ s.gc.length ≤ m + e ∧ FOk m s.gU.gd s.gc s.gU.gd.length s.gc.length (3 * m + 1 + 3 * e) s.gh
theorem Full.next {m : Nat} {s : Gs} (h : Full m 1 s) : Full (m + 1) 0 s := ⟨h.1.up (Nat.le_succ _), h.2.1, h.2.2.1, h.2.2.2.other (Nat.le_succ _) rfl rfl (Nat.le_refl _) (Nat.le_refl _) (by omega)⟩
def Fini (s : Gs) : Prop := s.gv = true ∧ DOk s.gDb ∧ OOk s.gf
theorem SInv.stop {m : Nat} {s : Gs} (h : SInv m s) (e : Int) : Fini (Z8i s e) := ⟨rfl, h.db, h.ot.1, h.ot.2.1, h.ot.2.2.1, h.ot.2.2.2⟩
def Zbx (s r : Gs) : Prop := r.gl = s.gl ∧ r.gw = s.gw ∧ r.gf.gp = s.gf.gp
theorem SInv.back {m : Nat} {s : Gs} (h : SInv m s) {t v n : Nat} (ht : t ≤ s.gU.gd.length) (hv : v ≤ 3000) (hb : ∀ x ∈ s.gU.gd.take t, x < (v : Int)) (hn : n ≤ s.gc.length) (hp : ∀ p ∈ s.gc.take n, p.gL ≤ (t : Int)) {l : List Gt} (hl : l.length = v) (ha : AllB l) (q : Int) :
  SInv m (mem (setP s (s.gc.take n)) ⟨l, s.gU.gd.take t, q⟩ v) where
 db := h.db
 ls := ha
 ln := by show (l.length : Int) = v; omega
 vl := by show (v : Int) ≤ 3000; omega
 bd := fun x hx => ⟨(h.bd x (List.mem_of_mem_take hx)).1, hb x hx⟩
 pk := fun i p hi => by
  have hi : (s.gc.take n)[i]? = some p := hi
  have hlt : i < n := by
   have := (List.getElem?_eq_some_iff.1 hi).1
   rw [List.length_take] at this
   omega
  rw [List.getElem?_take_of_lt hlt] at hi
  obtain ⟨t', v', q'⟩ := h.pk i p hi
  have hle : t' ≤ t := by
   have := hp p (List.mem_of_getElem? (i := i) (by rw [List.getElem?_take_of_lt hlt]; exact hi))
   rw [q'.et] at this
   omega
  refine ⟨t', v', q'.other (Nat.le_refl _) ?_ ?_ ?_⟩
  ·show (s.gU.gd.take t).take t' = _
   rw [List.take_take, Nat.min_eq_left hle]
  ·show (s.gc.take n).take i = _
   rw [List.take_take, Nat.min_eq_left (by omega)]
  ·show t' ≤ (s.gU.gd.take t).length
   rw [List.length_take]; omega
 ot := h.ot
 ov := h.ov
theorem SInv.more {m : Nat} {s : Gs} (h : SInv m s) {v : Nat} (hv : v ≤ 3000) (hv0 : s.gk ≤ v) {u : Gu} (hl : u.ge.length = v) (ha : AllB u.ge) {e : List Int} (hb : u.gd = s.gU.gd ++ e) (he : ∀ x ∈ e, 0 ≤ x ∧ x < (v : Int)) : SInv m (mem s u v) where
 db := h.db
 ls := ha
 ln := by show (u.ge.length : Int) = v; omega
 vl := by show (v : Int) ≤ 3000; omega
 bd := fun x hx => by
  have hx : x ∈ u.gd := hx
  rw [hb] at hx
  show 0 ≤ x ∧ x < (v : Int)
  rcases List.mem_append.1 hx with hx | hx
  ·have := h.bd x hx; omega
  ·exact he x hx
 pk := fun i p hi => by
  obtain ⟨t', v', q'⟩ := h.pk i p hi
  refine ⟨t', v', q'.other (Nat.le_refl _) ?_ rfl ?_⟩
  ·show u.gd.take t' = _
   rw [hb, List.take_append_of_le_length q'.tb]
  ·show t' ≤ u.gd.length
   rw [hb, List.length_append]; have := q'.tb; omega
 ot := h.ot
 ov := h.ov
theorem FOk.more {m : Nat} {b e : List Int} {P : List Gp} {n D : Nat} {f : Gf} (h : FOk m b P b.length n D f) {D' : Nat} (hD : D ≤ D') : FOk m (b ++ e) P (b ++ e).length n D' f :=
 h.other (Nat.le_refl _) (by rw [List.take_left', List.take_length]; rfl) rfl (by rw [List.length_append]; omega) (Nat.le_refl _) hD
theorem SInv.place {m : Nat} {s : Gs} (h : SInv m s) {p : Gp} {t v : Nat} (hp : POk m s.gU.gd (s.gc ++ [p]) s.gc.length p t v) : SInv m (setP s (s.gc ++ [p])) where
 db := h.db
 ls := h.ls
 ln := h.ln
 vl := h.vl
 bd := h.bd
 pk := fun i q hi => by
  have hi : (s.gc ++ [p])[i]? = some q := hi
  by_cases hlt : i < s.gc.length
  ·rw [List.getElem?_append_left hlt] at hi
   obtain ⟨t', v', q'⟩ := h.pk i q hi
   exact ⟨t', v', q'.other (Nat.le_refl _) rfl (by show (s.gc ++ [p]).take i = _; rw [List.take_append_of_le_length (by omega)]) q'.tb⟩
  ·rw [List.getElem?_append_right (by omega)] at hi
   have h0 : i - s.gc.length = 0 := by
    have := (List.getElem?_eq_some_iff.1 hi).1
    simpa using this
   rw [h0] at hi
   cases hi
   have : i = s.gc.length := by omega
   subst this
   exact ⟨t, v, hp⟩
 ot := h.ot
 ov := h.ov
theorem SInv.trails {m : Nat} {s : Gs} (h : SInv m s) : ∀ p ∈ s.gc, p.gL ≤ (s.gU.gd.length : Int) := fun p hp => by
 obtain ⟨i, hi⟩ := List.getElem?_of_mem hp
 obtain ⟨t, v, q⟩ := h.pk i p hi
 rw [q.et]
 have := q.tb
 omega
structure SOk (S : Sim) : Prop where
 e : S.E = [] ∨ ∃ V : Nat, S.E = [Gp.mk 0 0 (V : Int) S.F (Gt.mk 0 (bs []) 0 []) [] .nil] ∧ S.F.isNil = false ∧ V ≤ 3000
 b : ∀ (k m : Nat) (t : Gt) (s : Gs), Z5 k t (m + 3) S.B s = some (.done s)
def Exh (S : Sim) (s r : Gs) : Prop := (S.E = [] ∧ r.gv = true ∧ r.gf.gp = []) ∨
 (S.E ≠ [] ∧ r.gv = false ∧ r.gh = S.F ∧ r.gc = [] ∧ r.gf.gp = [] ∧ OOk r.gf ∧ DOk r.gDb ∧ r.gl = s.gl + S.ds ∧ r.gw = S.lim ∧ r.gU.ge.length ≤ 3000 ∧ AllB r.gU.ge)
def Rel (m : Nat) (S : Sim) (s r r' : Gs) : Prop := Zbx s r ∧ ((r' = sS S r ∧ (Full m 1 r ∨ (Fini r ∧ (r.gf.gz = 1 ∨ r.gf.gz = 2)))) ∨ (Fini r ∧ r.gf.gz = 0 ∧ Exh S s r'))
def TF (m : Nat) (S : Sim) (s : Gs) (R R' : Option Gs) : Prop := ∃ r r', R = some r ∧ R' = some r' ∧ Rel m S s r r'
theorem Zbx.refl (s : Gs) : Zbx s s := ⟨rfl, rfl, rfl⟩
theorem Zbx.trans {a b c : Gs} (h : Zbx a b) (g : Zbx b c) : Zbx a c := ⟨g.1.trans h.1, g.2.1.trans h.2.1, g.2.2.trans h.2.2⟩
theorem Rel.of {m : Nat} {S : Sim} {s s2 r r' : Gs} (h : Zbx s s2) (g : Rel m S s2 r r') : Rel m S s r r' := by
 refine ⟨h.trans g.1, g.2.imp id fun ⟨h1, h2, h3⟩ => ⟨h1, h2, h3.imp id fun ⟨a1, a2, a3, a4, a5, a6, a7, a8, a9⟩ => ⟨a1, a2, a3, a4, a5, a6, a7, by rw [a8, h.1], a9⟩⟩⟩
theorem TF.of {m : Nat} {S : Sim} {s s2 : Gs} {R R' : Option Gs} (h : Zbx s s2) (g : TF m S s2 R R') : TF m S s R R' := by
 obtain ⟨r, r', a, b, c⟩ := g
 exact ⟨r, r', a, b, c.of h⟩
theorem TF.full {m : Nat} {S : Sim} {s r : Gs} {R R' : Option Gs} (h1 : R = some r) (h2 : R' = some (sS S r)) (h3 : Zbx s r) (h4 : Full m 1 r) : TF m S s R R' := ⟨r, _, h1, h2, h3, .inl ⟨rfl, .inl h4⟩⟩
theorem TF.stop {m : Nat} {S : Sim} {s r : Gs} {R R' : Option Gs} (h1 : R = some r) (h2 : R' = some (sS S r)) (h3 : Zbx s r) (h4 : Fini r) (h5 : r.gf.gz = 1 ∨ r.gf.gz = 2) : TF m S s R R' := ⟨r, _, h1, h2, h3, .inl ⟨rfl, .inr ⟨h4, h5⟩⟩⟩
theorem Z13n {α : Type} {b : Bool} {x y : α} : (if (!b) = true then x else y) = (match b with | true => y | false => x) := by cases b <;> rfl
theorem Znv {α : Type} {l : List α} {j : Nat} : sub3 l ((j : Nat) : Int) (l.length : Int) = l.drop j := by
 unfold sub3
 rw [Int.toNat_natCast, Int.toNat_natCast, List.take_length]
theorem tf : ¬ true = false := by decide
theorem eta (x : Gt) : Gt.mk x.gi x.gn x.gj x.ga = x := by cases x; rfl
theorem Z10n {α : Type} {Q : List α} {p : α} (h : Q.length ≤ 100000) : at' (Q ++ [p]) (wr.i64 (((Q ++ [p]).length : Int) - 1)) = some p ∧ (Q ++ [p]).take (wr.i64 (((Q ++ [p]).length : Int) - 1)).toNat = Q ∧ 0 ≤ wr.i64 (((Q ++ [p]).length : Int) - 1) ∧ wr.i64 (((Q ++ [p]).length : Int) - 1) ≤ ((Q ++ [p]).length : Int) := by
 have hl : ((Q ++ [p]).length : Int) = (Q.length : Int) + 1 := by simp
 have e : wr.i64 (((Q ++ [p]).length : Int) - 1) = (Q.length : Int) := by rw [hl, Z4w (by omega) (by omega)]; omega
 rw [e]
 refine ⟨?_, ?_, by omega, by omega⟩
 ·rw [Z4c (show Q.length < (Q ++ [p]).length by simp)]
  simp
 ·rw [Int.toNat_natCast, List.take_left' rfl]
def outS : Out Gs Gs → Gs
 | .ret r => r
 | .done r => r
theorem Zz3 (S : Sim) (f : Gf) : (sG S f).isNil = f.isNil := by cases f <;> rfl
section
variable {k : Nat} (hk : maxLen + 1100000 < k) (S : Sim)
include hk
theorem hk1 : maxLen + 1000000 < k := Nat.lt_of_le_of_lt (Nat.add_le_add_left (by decide) _) hk
theorem Zlh {m : Nat} (hm : m ≤ 3000) (hE : S.E.length ≤ 1) {s : Gs} (h : SInv m s) (hb : s.gU.gd.length ≤ 2001 * m) (hp : s.gc.length ≤ m) (hg : FOk m s.gU.gd s.gc s.gU.gd.length s.gc.length (3 * m + 1) s.gh)
    {goal : Gt} (hgo : GoT goal) {l : List Gc} (hl : l.length ≤ 120) (hc : ∀ c ∈ l, COk c) {V : Nat} (hV : s.gk = (V : Int)) (hV3 : V ≤ 3000) : ∀ (n j : Nat) (U : Gu), j ≤ l.length → l.length - j < n → U.ge.length = V → AllB U.ge → U.gd = s.gU.gd →
      (∃ r, Z19 k l goal n (j : Int) (mem s U V) = some (.ret (r, true)) ∧ Z19 k l goal n (j : Int) (sS S (mem s U V)) = some (.ret (sS S r, true)) ∧ Zbx s r ∧ (Full m 1 r ∨ (Fini r ∧ r.gf.gz = 1))) ∨
      (∃ u, Z19 k l goal n (j : Int) (mem s U V) = some (.done (mem s u V)) ∧ Z19 k l goal n (j : Int) (sS S (mem s U V)) = some (.done (sS S (mem s u V))) ∧ u.ge.length = V ∧ AllB u.ge ∧ u.gd = s.gU.gd)
  | 0, j, U, h1, h2, h3, h4, h5 => by omega
  | n + 1, j, U, h1, h2, h3, h4, h5 => by
    have hk1 := hk1 hk
    have hM := Zl
    by_cases hlt : j < l.length
    · have hcj := hc _ (List.getElem_mem hlt)
      obtain ⟨d, e1, d1, d2⟩ := upTo hk1 (l := [l[j].gA, l[j].gD]) (by have := hcj.head.2.1; have := hcj.body.2.1; simp only [nsum]; omega) (fun x hx => by
        rcases List.mem_cons.1 hx with rfl | hx
        · exact ⟨1, (Zhc hcj.1.2).1⟩
        · rw [List.mem_singleton.1 hx]; exact ⟨1, (Zhc hcj.2.2).1⟩)
      obtain ⟨d, rfl⟩ := Int.eq_ofNat_of_zero_le d1
      obtain ⟨hd, e2, hd2⟩ := Zq4 hk1 (V : Int) hcj.head.mid
      obtain ⟨bd, e3, bd2⟩ := Zq4 hk1 (V : Int) hcj.body.mid
      have hhd := hd2.big hcj.head
      have hbd := bd2.big hcj.body
      have hw : wr.i64 ((V : Int) + (d : Int)) = ((V + d : Nat) : Int) := by rw [Z4w (by omega) (by omega)]; omega
      obtain ⟨U2, hU2⟩ : ∃ U2 : Gu, U2 = ⟨grow U.ge (V + d), U.gd, U.gu⟩ := ⟨_, rfl⟩
      obtain ⟨u, b, e4, g1, g2, ⟨e, g3, g4, g5⟩, g6⟩ := Zrj hk (U := U2) (V := V + d) (by omega) (by rw [hU2]; exact Z6f _ _) (by rw [hU2]; exact Zdk h4 _) (by
        rw [hU2]
        show ∀ n ∈ U.gd, _
        rw [h5]
        intro x hx
        have := h.bd x hx
        omega) (by rw [hU2]; show U.gd.length ≤ _; rw [h5]; omega) hgo.1 hhd.mid
      have g3 : u.gd = s.gU.gd ++ e := by rw [g3, hU2]; show U.gd ++ e = _; rw [h5]
      have st : ∀ s' : Gs, s'.gU = U → s'.gk = (V : Int) → s'.gc.length ≤ 3001 → Z19 k l goal (n + 1) (j : Int) s' =
          if b = true then (if ((V + d : Nat) : Int) ≤ 3000 then
              (if j + 1 < l.length then Z2f k l[j] s' (mem s' u (V + d : Nat), true) (setP (mem s' u (V + d : Nat)) (s'.gc ++ [Gp.mk (s'.gc.length : Int) (U.gd.length : Int) V .nil goal (l.drop (j + 1)) s'.gh]))
               else Z2f k l[j] s' (mem s' u (V + d : Nat), true) (mem s' u (V + d : Nat)))
            else some (.ret (Z8i (mem s' u (V + d : Nat)) 1, true)))
          else (Z1b k (mem s' u (V + d : Nat)) (U.gd.length : Int) (V : Int)).bind fun vs => Z19 k l goal n ((j + 1 : Nat) : Int) vs := fun s' q1 q2 hpl => by
        rw [Z19, if_pos (by simpa using hlt), Z4c hlt, obs, e1, obs, q1, q2, hw, useS hk1 (v := V + d) (by omega) s' (by rw [q1]; omega), obs, e2, obs, q1]
        rw [show Z10 k (mem s' ⟨grow U.ge (V + d), U.gd, U.gu⟩ (V + d : Nat)) goal hd = some (mem (mem s' ⟨grow U.ge (V + d), U.gd, U.gu⟩ (V + d : Nat)) u (V + d : Nat), b) from e4 _ hU2.symm rfl, obs, Z3v hlt (by omega)]
        cases b with
        | false => rw [if_pos (by rfl)]; rfl
        | true =>
          rw [if_neg (by simp), if_pos rfl]
          by_cases hr : ((V + d : Nat) : Int) ≤ 3000
          · rw [decide_eq_true hr, if_neg (by simp), if_pos hr]
            by_cases hj : j + 1 < l.length
            · rw [if_pos (by simp; omega), if_pos hj, if_pos ⟨by omega, by omega, by omega⟩, Znv, if_pos (by rw [List.isEmpty_eq_false_iff]; exact fun hq => by have := congrArg List.length hq; simp at this; omega), if_pos (by show s'.gc.length + 1 ≤ _; omega)]
              rfl
            · rw [if_neg (by simp; omega), if_neg hj]
              rfl
          · rw [decide_eq_false hr, if_pos (by rfl), if_neg hr]
            rfl
      have lenS : (sS S s).gc.length ≤ 3001 := by
        show (S.E ++ s.gc.map (sP S)).length ≤ 3001
        rw [List.length_append, List.length_map]
        omega
      have a1 := st (mem s U V) rfl rfl (by show s.gc.length ≤ 3001; omega)
      have a2 := st (sS S (mem s U V)) rfl rfl lenS
      rw [a1, a2]
      clear st a1 a2
      cases b with
      | false =>
        have g6 : u.gd = s.gU.gd := by rw [g6 rfl, hU2]; exact h5
        obtain ⟨U3, hU3⟩ : ∃ U3 : Gu, U3 = ⟨grow (wipe u.ge (u.gd.drop U.gd.length)) V, u.gd.take U.gd.length, u.gu⟩ := ⟨_, rfl⟩
        have ud : ∀ s' : Gs, Z1b k (mem s' u (V + d : Nat)) (U.gd.length : Int) (V : Int) = some (mem s' U3 V) := fun s' => by
          rw [Zuf hk1 (t := U.gd.length) (v := V) (by omega) (mem s' u (V + d : Nat)) (by show u.ge.length ≤ _; omega) (by show _ ≤ u.gd.length; rw [g6, h5]; exact Nat.le_refl _) (by
            show ∀ n ∈ u.gd, 0 ≤ n ∧ n < (u.ge.length : Int)
            rw [g6, g1]
            intro x hx
            have := h.bd x hx
            omega) (by show u.gd.length ≤ _; rw [g6]; omega), hU3]
          rfl
        rw [if_neg (by decide), if_neg (by decide), ud, obs, show mem (sS S (mem s U V)) u (V + d : Nat) = mem (sS S (mem s U V)) u (V + d : Nat) from rfl, ud, obs]
        exact Zlh hm hE h hb hp hg hgo hl hc hV hV3 n (j + 1) U3 (by omega) (by omega) (by rw [hU3]; exact Z6f _ _) (by rw [hU3]; exact Zdk (Zin _ _ g2) _) (by rw [hU3]; show u.gd.take _ = _; rw [g6, h5, List.take_length])
      | true =>
        rw [if_pos rfl, if_pos rfl]
        refine .inl ?_
        have sm : ∀ r : Gs, r.gl = s.gl → r.gw = s.gw → r.gf.gp = s.gf.gp → Zbx s r := fun r a b c => ⟨a, b, c⟩
        by_cases hr : ¬ ((V + d : Nat) : Int) ≤ 3000
        · rw [if_neg hr, if_neg hr]
          exact ⟨Z8i (mem s u (V + d : Nat)) 1, rfl, rfl, sm _ rfl rfl rfl, .inr ⟨⟨rfl, h.db, h.ot⟩, rfl⟩⟩
        have hr := Decidable.not_not.1 hr
        rw [if_pos hr, if_pos hr]
        have i1 : SInv m (mem s u (V + d : Nat)) := h.more (v := V + d) (by omega) (by omega) g1 g2 g3 g4
        have f1 : FOk m u.gd s.gc u.gd.length s.gc.length (3 * m + 1) s.gh := by rw [g3]; exact hg.more (Nat.le_refl _)
        have lb : u.gd.length ≤ 2001 * (m + 1) := by rw [g3, List.length_append]; omega
        have J2 : ∀ (s' : Gs) (w : Gs × Bool) (v : Gs), s'.gk = (V : Int) → Z2f k l[j] s' w v = some (.ret (Zbb v bd (w.1.gc.length : Int), true)) := fun s' w v q => by
          unfold Z2f
          rw [q, e3, obs]
          rfl
        rw [J2 _ _ _ rfl, J2 _ _ _ rfl, J2 _ _ _ rfl, J2 _ _ _ rfl]
        have lS : ((sS S s).gc.length : Int) = (s.gc.length : Int) + S.c := Zff S s
        by_cases hj : j + 1 < l.length
        · rw [if_pos hj, if_pos hj]
          obtain ⟨pl, hpl⟩ : ∃ pl : Gp, pl = Gp.mk (s.gc.length : Int) (U.gd.length : Int) V .nil goal (l.drop (j + 1)) s.gh := ⟨_, rfl⟩
          have hne : (l.drop (j + 1)).isEmpty = false := by rw [List.isEmpty_eq_false_iff]; exact fun hq => by have := congrArg List.length hq; simp at this; omega
          have hpS : sP S pl = Gp.mk ((sS S s).gc.length : Int) (U.gd.length : Int) V .nil goal (l.drop (j + 1)) (fF S s.gh) := by
            rw [hpl, lS]
            unfold sP
            simp only [hne]
            rfl
          refine ⟨Zbb (setP (mem s u (V + d : Nat)) (s.gc ++ [pl])) bd (s.gc.length : Int), by rw [hpl]; rfl, ?_, sm _ rfl rfl rfl, .inl ⟨?_, lb, ?_, ?_⟩⟩
          · rw [Z9s, ← lS]
            show some (Out.ret (Zbb (setP (mem (sS S s) u (V + d : Nat)) ((sS S s).gc ++ [Gp.mk ((sS S s).gc.length : Int) (U.gd.length : Int) V .nil goal (l.drop (j + 1)) (fF S s.gh)])) bd ((sS S s).gc.length : Int), true)) = _
            rw [← hpS]
            have : (sS S s).gc ++ [sP S pl] = S.E ++ (s.gc ++ [pl]).map (sP S) := by
              rw [List.map_append, ← List.append_assoc]; rfl
            rw [this]
            rfl
          · refine (SInv.place (t := U.gd.length) (v := V) i1 ?_).goals _
            refine ⟨by rw [hpl]; rfl, by rw [hpl], by rw [hpl], ?_, by rw [h5]; exact hb, hV3, ?_, ?_, .inl ?_⟩
            · show _ ≤ u.gd.length
              rw [g3, h5, List.length_append]; omega
            · show ∀ x ∈ u.gd.take U.gd.length, _
              rw [g3, h5, List.take_left' rfl]
              intro x hx
              have := h.bd x hx
              omega
            · show ∀ q ∈ (s.gc ++ [pl]).take s.gc.length, _
              rw [List.take_left' rfl, h5]
              exact h.trails
            · rw [hpl]
              refine ⟨by rw [List.isEmpty_eq_false_iff] at hne; exact hne, rfl, by simp; omega, fun c hc2 => hc c (List.mem_of_mem_drop hc2), hgo, ?_⟩
              show FOk m u.gd (s.gc ++ [_]) U.gd.length s.gc.length (3 * m + 1) s.gh
              rw [g3, h5]
              exact hg.other (Nat.le_refl _) (by rw [List.take_left' rfl, List.take_length]) (by rw [List.take_left' rfl, List.take_length]) (Nat.le_refl _) (Nat.le_refl _) (Nat.le_refl _)
          · show (s.gc ++ [pl]).length ≤ m + 1
            simp; omega
          · show FOk m u.gd (s.gc ++ [pl]) u.gd.length (s.gc ++ [pl]).length _ (.mk 1 bd (s.gc.length : Int) .nil s.gh)
            exact .go (.inl rfl) hbd.go (by simp) (f1.other (Nat.le_refl _) rfl (by rw [List.take_left' rfl, List.take_length]) (Nat.le_refl _) (Nat.le_refl _) (by omega))
        · rw [if_neg hj, if_neg hj]
          refine ⟨Zbb (mem s u (V + d : Nat)) bd (s.gc.length : Int), rfl, ?_, sm _ rfl rfl rfl, .inl ⟨i1.goals _, lb, by show s.gc.length ≤ _; omega, ?_⟩⟩
          · rw [Z9s, ← lS]
            rfl
          · show FOk m u.gd s.gc u.gd.length s.gc.length _ (.mk 1 bd (s.gc.length : Int) .nil s.gh)
            exact .go (.inl rfl) hbd.go (Nat.le_refl _) (f1.other (Nat.le_refl _) rfl rfl (Nat.le_refl _) (Nat.le_refl _) (by omega))
    · refine .inr ⟨U, ?_, ?_, h3, h4, h5⟩ <;> rw [Z19, if_neg (by simpa using hlt)]
theorem Zrt {m : Nat} (hm : m ≤ 3000) (hE : S.E.length ≤ 1) {s : Gs} (h : SInv m s) (hb : s.gU.gd.length ≤ 2001 * m) (hp : s.gc.length ≤ m) (hg : FOk m s.gU.gd s.gc s.gU.gd.length s.gc.length (3 * m + 1) s.gh)
  {goal : Gt} (hgo : GoT goal) {l : List Gc} (hl : l.length ≤ 120) (hc : ∀ c ∈ l, COk c) :
   (∃ r, Z1v k s goal l = some (r, true) ∧ Z1v k (sS S s) goal l = some (sS S r, true) ∧ Zbx s r ∧ (Full m 1 r ∨ (Fini r ∧ r.gf.gz = 1))) ∨
   (∃ u, Z1v k s goal l = some (mem s u s.gk, false) ∧ Z1v k (sS S s) goal l = some (sS S (mem s u s.gk), false) ∧ SInv m (mem s u s.gk) ∧ u.gd = s.gU.gd) := by
 obtain ⟨V, hV, hV2, hV3⟩ := h.vars
 have hM := Zl
 have hs : mem s s.gU (V : Int) = s := by rw [← hV]; rfl
 unfold Z1v
 rcases Zlh hk S hm hE h hb hp hg hgo hl hc hV hV3 k 0 s.gU (by omega) (by omega) hV2 h.ls rfl with ⟨r, e1, e2, e3, e4⟩ | ⟨u, e1, e2, e3, e4, e5⟩
 ·rw [hs, show ((0 : Nat) : Int) = 0 from rfl] at e1 e2
  exact .inl ⟨r, by rw [e1]; rfl, by rw [e2]; rfl, e3, e4⟩
 ·rw [hs, show ((0 : Nat) : Int) = 0 from rfl] at e1 e2
  rw [hV]
  exact .inr ⟨u, by rw [e1]; rfl, by rw [e2]; rfl, h.more (e := []) hV3 (by omega) e3 e4 (by simp [e5]) (fun x hx => by cases hx), e5⟩
theorem Znd {n : Nat} {s' : Gs} {Q : List Gp} {p : Gp} {t v : Nat} (hQ : s'.gc = Q ++ [p]) (hl : Q.length ≤ 100000) (ho : s'.gv = false) (ht : p.gL = (t : Int)) (hv : p.gk = (v : Int)) (hv3 : v ≤ 3000) (hs : s'.gU.ge.length ≤ 3000) (htb : t ≤ s'.gU.gd.length) (hb : ∀ n ∈ s'.gU.gd, 0 ≤ n ∧ n < (s'.gU.ge.length : Int)) (hbl : s'.gU.gd.length ≤ 1000000000) :
  Z13 k (n + 1) s' = if p.gF.isEmpty = false then
    (Z1v k (setG (mem (setP s' Q) ⟨grow (wipe s'.gU.ge (s'.gU.gd.drop t)) v, s'.gU.gd.take t, s'.gU.gu⟩ v) p.gM) p.gN p.gF).bind fun r => if r.2 = true then some (.ret r.1) else Z13 k n r.1
   else if p.gh.isNil = false then some (.ret (setG (mem (setP s' Q) ⟨grow (wipe s'.gU.ge (s'.gU.gd.drop t)) v, s'.gU.gd.take t, s'.gU.gu⟩ v) p.gh))
   else Z13 k n (mem (setP s' Q) ⟨grow (wipe s'.gU.ge (s'.gU.gd.drop t)) v, s'.gU.gd.take t, s'.gU.gu⟩ v) := by
 obtain ⟨l1, l2, l3, l4⟩ := Z10n (Q := Q) (p := p) hl
 rw [Z13, ho, if_pos (by rfl), hQ, if_neg (by simp; omega), l1, obs, if_pos ⟨l3, l4⟩, l2, ht, hv]
 rw [show Z1b k (Gs.mk s'.gDb s'.gU s'.gk s'.gl s'.gw s'.gh Q s'.gf false) (t : Int) (v : Int) = some (mem (setP s' Q) ⟨grow (wipe s'.gU.ge (s'.gU.gd.drop t)) v, s'.gU.gd.take t, s'.gU.gu⟩ v) by
  rw [← ho]
  exact Zuf (hk1 hk) (by omega) (setP s' Q) (by show s'.gU.ge.length ≤ _; omega) htb hb hbl, obs, eta]
 cases h1 : p.gF.isEmpty with
 | false => rw [if_pos (by rfl), if_pos rfl, if_pos rfl, if_pos rfl]; rfl
 | true =>
  rw [if_neg (show ¬ (!true) = true by decide), if_neg tf]
  cases h2 : p.gh.isNil with
  | false => rw [if_pos (show (!false) = true from rfl), if_pos rfl]; rfl
  | true => rw [if_neg (show ¬ (!true) = true by decide), if_neg tf]
theorem Zqx (hS : SOk S) {m : Nat} (hm : m ≤ 3000) : ∀ (n : Nat) (s : Gs) (g : Gf), SInv m s → s.gc.length ≤ m + 1 → s.gU.gd.length ≤ 900000000 → s.gc.length + 2 < n →
  ∃ o o', Z13 k n s = some o ∧ Z13 k n (setG (sS S s) g) = some o' ∧ Rel m S s (outS o) (outS o')
 | 0, s, g, h, hp, hbl, hn => by omega
 | n + 1, s, g, h, hp, hbl, hn => by
  have hE : S.E.length ≤ 1 := by rcases hS.e with h | ⟨V, h, _⟩ <;> rw [h] <;> simp
  have hbd : ∀ x ∈ s.gU.gd, 0 ≤ x ∧ x < (s.gU.ge.length : Int) := fun x hx => by rw [h.ln]; exact h.bd x hx
  have hll : s.gU.ge.length ≤ 3000 := by have := h.ln; have := h.vl; omega
  rcases List.eq_nil_or_concat s.gc with h0 | ⟨Q, p, hQ⟩
  ·have e1 : Z13 k (n + 1) s = some (.ret (Z8i s 0)) := by
    rw [Z13, h.ov, if_pos (by rfl), h0, if_pos (by rfl), Zui, obs]
   have fs : Fini (Z8i s 0) := h.stop 0
   rcases hS.e with hE0 | ⟨V, hE1, hF, hV⟩
   ·have e2 : Z13 k (n + 1) (setG (sS S s) g) = some (.ret (Z8i (setG (sS S s) g) 0)) := by
     have hz : (setG (sS S s) g).gc = [] := by show S.E ++ s.gc.map (sP S) = []; rw [hE0, h0]; rfl
     rw [Z13, show (setG (sS S s) g).gv = false from h.ov, if_pos (by rfl), hz, if_pos (by rfl), Zui, obs]
    exact ⟨_, _, e1, e2, ⟨rfl, rfl, rfl⟩, .inr ⟨fs, rfl, .inl ⟨hE0, rfl, rfl⟩⟩⟩
   ·obtain ⟨n, rfl⟩ : ∃ q, n = q + 1 := ⟨n - 1, by omega⟩
    have e2 := Znd (k := k) hk (n := n + 1) (s' := setG (sS S s) g) (Q := []) (p := Gp.mk 0 0 (V : Int) S.F (Gt.mk 0 (bs []) 0 []) [] .nil) (t := 0) (v := V) (by show S.E ++ s.gc.map (sP S) = _; rw [hE1, h0]; rfl) (by simp) h.ov rfl rfl hV hll (Nat.zero_le _) hbd (by show s.gU.gd.length ≤ _; omega)
    rw [if_neg (by simp), if_pos hF] at e2
    refine ⟨_, _, e1, e2, ⟨rfl, rfl, rfl⟩, .inr ⟨fs, rfl, .inr ⟨by rw [hE1]; simp, h.ov, rfl, rfl, rfl, ⟨(fun x hx => by cases hx), by simp [outS, setG, mem, setP, sS, sO], h.ot.2.2.1, h.ot.2.2.2⟩, h.db, rfl, rfl, ?_, ?_⟩⟩⟩
    ·show (grow _ V).length ≤ 3000
     rw [Z6f]; exact hV
    ·exact Zdk (Zin _ _ h.ls) _
  ·rw [List.concat_eq_append] at hQ
   obtain ⟨t, v, q⟩ := h.pk Q.length p (by rw [hQ]; simp)
   have hlQ : Q.length ≤ m := by rw [hQ] at hp; simp at hp; omega
   obtain ⟨U1, hU1⟩ : ∃ U1 : Gu, U1 = ⟨grow (wipe s.gU.ge (s.gU.gd.drop t)) v, s.gU.gd.take t, s.gU.gu⟩ := ⟨_, rfl⟩
   have hQt : s.gc.take Q.length = Q := by rw [hQ, List.take_left' rfl]
   have i1 : SInv m (mem (setP s Q) U1 v) := by
    have := h.back (t := t) (v := v) (n := Q.length) q.tb q.vm q.bv (by rw [hQ]; simp) (by have := q.lo; rwa [hQt] at this ⊢) (Z6f (wipe s.gU.ge (s.gU.gd.drop t)) v) (Zdk (Zin _ _ h.ls) _) s.gU.gu
    rw [hQt] at this
    rw [hU1]
    exact this
   have b1 : U1.gd = s.gU.gd.take t := by rw [hU1]
   have b1l : U1.gd.length = t := by rw [b1, List.length_take]; have := q.tb; omega
   have e1 := Znd (k := k) hk (n := n) (s' := s) (Q := Q) (p := p) (t := t) (v := v) hQ (by omega) h.ov q.et q.ev q.vm hll q.tb hbd (by omega)
   have e2 := Znd (k := k) hk (n := n) (s' := setG (sS S s) g) (Q := S.E ++ Q.map (sP S)) (p := sP S p) (t := t) (v := v) (by show S.E ++ s.gc.map (sP S) = _; rw [hQ, List.map_append, List.append_assoc]; rfl) (by simp; omega) h.ov q.et q.ev q.vm hll q.tb hbd (by show s.gU.gd.length ≤ _; omega)
   rw [← hU1] at e1
   rw [show (setG (sS S s) g).gU = s.gU from rfl, ← hU1] at e2
   have fo : ∀ {n' D : Nat} {f : Gf}, FOk m s.gU.gd s.gc t Q.length D f → n' = Q.length → FOk m U1.gd Q U1.gd.length n' D f := fun {n' D f} hf hn' => by
    subst hn'
    refine hf.other (Nat.le_refl _) ?_ ?_ (by omega) (Nat.le_refl _) (Nat.le_refl _)
    ·rw [b1, List.take_take, Nat.min_self]
    ·rw [hQt, List.take_length]
   cases hle : p.gF.isEmpty with
   | false =>
    have hl2 : (sP S p).gF.isEmpty = false := hle
    have hb2 : (sP S p).gM = fF S p.gM := by unfold sP; simp only [hle]
    rw [hle, if_pos rfl] at e1
    rw [hl2, if_pos rfl, hb2] at e2
    obtain ⟨h1, h2, h3, h4, h5, h6⟩ := q.go.resolve_right fun ⟨h1, _⟩ => by rw [h1] at hle; cases hle
    obtain ⟨s2, hs2⟩ : ∃ s2 : Gs, s2 = setG (mem (setP s Q) U1 v) p.gM := ⟨_, rfl⟩
    have hsame : Zbx s s2 := by rw [hs2]; exact ⟨rfl, rfl, rfl⟩
    have i2 : SInv m s2 := by rw [hs2]; exact i1.goals _
    have z : setG (mem (setP (setG (sS S s) g) (S.E ++ Q.map (sP S))) U1 v) (fF S p.gM) = sS S s2 := by rw [hs2]; rfl
    rw [← hs2] at e1
    rw [show (sP S p).gN = p.gN from rfl, show (sP S p).gF = p.gF from rfl, z] at e2
    rcases Zrt hk S hm hE i2 (by rw [hs2]; show U1.gd.length ≤ _; rw [b1l]; exact q.tm) (by rw [hs2]; exact hlQ) (by rw [hs2]; exact fo h6 rfl) h5 h3 h4 with ⟨r, r1, r2, r3, r4⟩ | ⟨u, r1, r2, r3, r4⟩
    ·rw [r1, obs, if_pos rfl] at e1
     rw [r2, obs, if_pos rfl] at e2
     exact ⟨_, _, e1, e2, hsame.trans r3, .inl ⟨rfl, r4.imp id fun h => ⟨h.1, .inl h.2⟩⟩⟩
    ·rw [r1, obs, if_neg (by simp)] at e1
     rw [r2, obs, if_neg (by simp)] at e2
     obtain ⟨o, o', a1, a2, a3⟩ := Zqx hS hm n (mem s2 u s2.gk) (fF S (mem s2 u s2.gk).gh) r3 (by rw [hs2]; show Q.length ≤ _; omega) (by show u.gd.length ≤ _; rw [r4, hs2]; show U1.gd.length ≤ _; rw [b1, List.length_take]; omega) (by rw [hs2]; show Q.length + 2 < n; rw [hQ] at hn; simp at hn; omega)
     exact ⟨o, o', e1.trans a1, e2.trans a2, a3.of (hsame.trans ⟨rfl, rfl, rfl⟩)⟩
   | true =>
    rw [hle, if_neg tf] at e1
    rw [show (sP S p).gF.isEmpty = true from hle, if_neg tf] at e2
    have hfo : FOk m s.gU.gd s.gc t Q.length (3 * m + 4) p.gh := by
     rcases q.go with ⟨h1, _⟩ | ⟨h1, h2⟩
     ·exact absurd (List.isEmpty_iff.1 hle) h1
     ·exact h2
    cases hni : p.gh.isNil with
    | false =>
     have hg2 : (sP S p).gh = fF S p.gh := by show sG S p.gh = _; unfold sG; simp only [hni]
     rw [hni, if_pos rfl] at e1
     rw [show (sP S p).gh.isNil = false by rw [show (sP S p).gh = sG S p.gh from rfl, Zz3, hni], if_pos rfl, hg2] at e2
     refine ⟨_, _, e1, e2, ⟨rfl, rfl, rfl⟩, .inl ⟨rfl, .inl ⟨i1.goals _, ?_, ?_, ?_⟩⟩⟩
     ·show U1.gd.length ≤ _
      rw [b1l]; have := q.tm; omega
     ·show Q.length ≤ _; omega
     ·exact (fo hfo rfl).other (Nat.le_refl _) rfl rfl (Nat.le_refl _) (Nat.le_refl _) (by omega)
    | true =>
     rw [hni, if_neg tf] at e1
     rw [show (sP S p).gh.isNil = true by rw [show (sP S p).gh = sG S p.gh from rfl, Zz3, hni], if_neg tf] at e2
     obtain ⟨o, o', a1, a2, a3⟩ := Zqx hS hm n (mem (setP s Q) U1 v) g i1 (by show Q.length ≤ _; omega) (by show U1.gd.length ≤ _; rw [b1, List.length_take]; omega) (by show Q.length + 2 < n; rw [hQ] at hn; simp at hn; omega)
     exact ⟨o, o', e1.trans a1, e2.trans a2, a3.of ⟨rfl, rfl, rfl⟩⟩
theorem Ztk (hS : SOk S) {m : Nat} (hm : m ≤ 3000) {s : Gs} (g : Gf) (h : SInv m s) (hp : s.gc.length ≤ m + 1) (hb : s.gU.gd.length ≤ 900000000) : TF m S s (Z17 k s) (Z17 k (setG (sS S s) g)) := by
 have hM := Zl
 obtain ⟨o, o', a1, a2, a3⟩ := Zqx hk S hS hm k s g h hp hb (by omega)
 unfold Z17
 rw [a1, a2, obs, obs]
 refine ⟨outS o, outS o', ?_, ?_, a3⟩
 ·cases o <;> rfl
 ·cases o' <;> rfl
end
def Pre (m a : Nat) (s : Gs) : Prop := SInv m s ∧ s.gU.gd.length ≤ 2001 * m ∧ s.gc.length ≤ m ∧ a ≤ s.gc.length ∧ FOk m s.gU.gd s.gc s.gU.gd.length a (3 * m + 1) s.gh
theorem Pre.full {m a : Nat} {s : Gs} (h : Pre m a s) : Full m 1 s := ⟨h.1, by have := h.2.1; omega, by have := h.2.2.1; omega, h.2.2.2.2.other (Nat.le_refl _) rfl rfl (Nat.le_refl _) h.2.2.2.1 (by omega)⟩
section
variable {k : Nat} (hk : maxLen + 1100000 < k) (S : Sim)
include hk
theorem Zxn (hS : SOk S) : S.E.length ≤ 1 := by
 have _ := hk
 rcases hS.e with h | ⟨V, h, _⟩ <;> rw [h] <;> simp
theorem Zmj (hS : SOk S) {m : Nat} (hm : m ≤ 3000) {ball : Gt} (hball : BigT ball) : ∀ (n : Nat) (f : Gf) (s : Gs) (τ nn D : Nat), SInv m s → s.gc.length ≤ m + 1 → s.gU.gd.length ≤ 900000000 → FOk m s.gU.gd s.gc τ nn D f → τ ≤ s.gU.gd.length → nn ≤ s.gc.length → D + 4 ≤ n →
  (∃ r, Z5 k ball n f s = some (.ret r) ∧ Z5 k ball n (fF S f) (sS S s) = some (.ret (sS S r)) ∧ Zbx s r ∧ (Full m 1 r ∨ (Fini r ∧ r.gf.gz = 1))) ∨
  (∃ r, Z5 k ball n f s = some (.done r) ∧ Z5 k ball n (fF S f) (sS S s) = some (.done (sS S r)) ∧ Zbx s r ∧ SInv m r)
 | 0, f, s, τ, nn, D, h, hp, hbl, hf, h1, h2, h3 => by omega
 | n + 1, f, s, τ, nn, D, h, hp, hbl, hf, h1, h2, h3 => by
  have hk1 := hk1 hk
  have hE := Zxn hk S hS
  cases hf with
  | nil =>
   obtain ⟨q, rfl⟩ : ∃ q, n = q + 2 := ⟨n - 2, by omega⟩
   refine .inr ⟨s, ?_, ?_, .refl s, h⟩
   ·rw [Z5, if_neg (show ¬ (!Gf.nil.isNil) = true by decide)]
   ·rw [fF]; exact hS.b k q ball _
  | @go _ _ D kk g a nx k12 hg ha hn =>
   have c3 : (kk != 3) = true := by rcases k12 with rfl | rfl <;> rfl
   have d3 : ¬ kk = 3 := by omega
   have e1 : Z5 k ball (n + 1) (.mk kk g (a : Int) .nil nx) s = Z5 k ball n nx s := by
    rw [Z5, if_pos (by rfl), if_pos (by rfl), if_pos (by exact c3), if_pos (by rfl)]; rfl
   have e2 : Z5 k ball (n + 1) (fF S (.mk kk g (a : Int) .nil nx)) (sS S s) = Z5 k ball n (fF S nx) (sS S s) := by
    rw [fF, Z5, if_pos (by rfl), if_pos (by rfl), if_pos (by exact c3), if_pos (by rfl)]; rfl
   rw [e1, e2]
   exact Zmj hS hm hball n nx s τ a D h hp hbl hn h1 (by omega) (by omega)
  | @dn _ _ D g a u v gg bl th a2 bh nx ha hu hum hv hv3 hlo hbl2 hth ha2 hbh hnx =>
   have hbd : ∀ x ∈ s.gU.gd, 0 ≤ x ∧ x < (s.gU.ge.length : Int) := fun x hx => by rw [h.ln]; exact h.bd x hx
   have hll : s.gU.ge.length ≤ 3000 := by have := h.ln; have := h.vl; omega
   have hub : u ≤ s.gU.gd.length := by omega
   have hap : a ≤ s.gc.length := by omega
   obtain ⟨vo, e1, l1⟩ := Zua hk1 hball
   obtain ⟨fr, e2, g2⟩ := Zzm hk1 (v : Int) hball
   obtain ⟨W, hW⟩ : ∃ W, W = v + vo.length := ⟨_, rfl⟩
   obtain ⟨l0, hl0⟩ : ∃ l0, l0 = grow (wipe s.gU.ge (s.gU.gd.drop u)) v := ⟨_, rfl⟩
   have al0 : AllB l0 := by rw [hl0]; exact Zdk (Zin _ _ h.ls) _
   have ll0 : l0.length = v := by rw [hl0]; exact Z6f _ _
   obtain ⟨U2, hU2⟩ : ∃ U2 : Gu, U2 = ⟨grow l0 W, s.gU.gd.take u, s.gU.gu⟩ := ⟨_, rfl⟩
   have i2 : SInv m (mem (setP s (s.gc.take a)) ⟨l0, s.gU.gd.take u, s.gU.gu⟩ v) := h.back hub hv3 hv hap hlo ll0 al0 _
   have U2b : U2.gd = s.gU.gd.take u := by rw [hU2]
   have U2l : U2.ge.length = W := by rw [hU2]; exact Z6f _ _
   have U2a : AllB U2.ge := by rw [hU2]; exact Zdk al0 _
   have bt : ∀ x ∈ s.gU.gd.take u, 0 ≤ x ∧ x < (W : Int) := fun x hx => by have := hv x hx; have := h.bd x (List.mem_of_mem_take hx); omega
   obtain ⟨u', b, e3, g3, g4, ⟨e, g5, g6, g7⟩, g8⟩ := Zrj hk (U := U2) (V := W) (by omega) U2l U2a (by rw [U2b]; exact bt) (by rw [U2b, List.length_take]; omega) g2.mid hbl2.mid
   rw [U2b] at g5 g8
   have st : ∀ (s' : Gs) (P' : List Gp) (a' a2' : Int) (bh' nx' : Gf), s'.gU = s.gU → 0 ≤ a' → a' ≤ (s'.gc.length : Int) → s'.gc.take a'.toNat = P' →
     Z5 k ball (n + 1) (.mk 3 g 0 (.mk a' (u : Int) (v : Int) gg bl th a2' bh') nx') s' =
      if (W : Int) ≤ 3000 then (if b = true then some (.ret (Zbb (setG (mem (setP s' P') u' W) bh') th a2')) else Z5 k ball n nx' (mem (setP s' P') u' W)) else some (.ret (Z8i (mem (setP s' P') U2 W) 1)) := fun s' P' a' a2' bh' nx' q1 q2 q3 q4 => by
    have w1 : Z1b k s' (u : Int) (v : Int) = some (mem s' ⟨l0, s.gU.gd.take u, s.gU.gu⟩ v) := by
     rw [Zuf hk1 (t := u) (v := v) (by omega) s' (by rw [q1]; omega) (by rw [q1]; exact hub) (by rw [q1]; exact hbd) (by rw [q1]; omega), q1, hl0]
    have w2 : Z20 k (mem (setP s' P') ⟨l0, s.gU.gd.take u, s.gU.gu⟩ v) (W : Int) = some (mem (setP s' P') U2 W, decide ((W : Int) ≤ 3000)) := by
     rw [useS hk1 (v := W) (by omega) _ (by show l0.length ≤ _; omega), hU2]; rfl
    have hw : wr.i64 ((v : Int) + (vo.length : Int)) = (W : Int) := by rw [Z4w (by omega) (by omega)]; omega
    have c0 : (Ga.mk a' (u : Int) (v : Int) gg bl th a2' bh').isNil = false := rfl
    rw [Z5, if_pos (by rfl), if_pos (by rfl), if_neg (show ¬ ((Gf.mk 3 g 0 (Ga.mk a' (u : Int) (v : Int) gg bl th a2' bh') nx').gi != 3) = true from (by decide : ¬ ((3 : Int) != 3) = true)), if_pos (by rfl), if_pos (by rfl), if_pos (by rfl)]
    show ((Z1b k s' (u : Int) (v : Int)).bind _) = _
    rw [w1, obs, if_pos (by rfl), if_pos ⟨q2, q3⟩]
    show ((Zc2 k ball (v : Int)).bind _) = _
    rw [e2, obs, e1, obs]
    show ((Z20 k (mem (setP s' (s'.gc.take a'.toNat)) ⟨l0, s.gU.gd.take u, s.gU.gu⟩ v) (wr.i64 ((v : Int) + (vo.length : Int)))).bind _) = _
    rw [hw, q4, w2, obs]
    by_cases hr : (W : Int) ≤ 3000
    ·rw [decide_eq_true hr, if_neg (by simp), if_pos hr, if_pos (by rfl)]
     show ((Z10 k (mem (setP s' P') U2 W) fr (Gt.mk bl.gi bl.gn bl.gj bl.ga)).bind _) = _
     rw [eta, e3 _ rfl rfl, obs]
     cases b with
     | true =>
      rw [if_pos rfl, if_pos rfl, if_pos (by rfl), if_pos (by rfl), if_pos (by rfl)]
      show some (Out.ret (Zbb _ (Gt.mk th.gi th.gn th.gj th.ga) a2')) = _
      rw [eta]; rfl
     | false => rw [if_neg (by simp), if_pos (by rfl), if_neg Bool.false_ne_true]; rfl
    ·rw [decide_eq_false hr, if_pos (by rfl), if_neg hr]; rfl
   have a1 := st s (s.gc.take a) (a : Int) (a2 : Int) bh nx rfl (by omega) (by omega) (by rw [Int.toNat_natCast])
   have a2e := st (sS S s) (S.E ++ (s.gc.take a).map (sP S)) ((a : Int) + S.c) ((a2 : Int) + S.c) (fF S bh) (fF S nx) rfl (by unfold Sim.c; omega) (by rw [Zff]; omega) (by
    show (S.E ++ s.gc.map (sP S)).take _ = _
    rw [show ((a : Int) + S.c).toNat = a + S.E.length by unfold Sim.c; omega, Zq8])
   have hfF : fF S (.mk 3 g 0 (.mk (a : Int) (u : Int) (v : Int) gg bl th (a2 : Int) bh) nx) = .mk 3 g 0 (.mk ((a : Int) + S.c) (u : Int) (v : Int) gg bl th ((a2 : Int) + S.c) (fF S bh)) (fF S nx) := by rw [fF, fC, if_pos rfl]
   rw [hfF, a1, a2e]
   clear st a1 a2e
   by_cases hr : ¬ (W : Int) ≤ 3000
   ·rw [if_neg hr, if_neg hr]
    exact .inl ⟨_, rfl, rfl, ⟨rfl, rfl, rfl⟩, .inr ⟨⟨rfl, h.db, h.ot⟩, rfl⟩⟩
   have hr := Decidable.not_not.1 hr
   rw [if_pos hr, if_pos hr]
   have i3 : SInv m (mem (setP s (s.gc.take a)) u' W) := i2.more (v := W) (by omega) (by show (v : Int) ≤ _; omega) g3 g4 g5 g6
   have ptl : (s.gc.take a).length = a := by rw [List.length_take]; omega
   have btl : (s.gU.gd.take u).length = u := by rw [List.length_take]; omega
   cases b with
   | true =>
    rw [if_pos rfl, if_pos rfl]
    refine .inl ⟨Zbb (setG (mem (setP s (s.gc.take a)) u' W) bh) th (a2 : Int), rfl, by rw [Z9s]; rfl, ⟨rfl, rfl, rfl⟩, .inl ⟨(i3.goals _).goals _, ?_, ?_, ?_⟩⟩
    ·show u'.gd.length ≤ _
     rw [g5, List.length_append, btl]; omega
    ·show (s.gc.take a).length ≤ _
     omega
    ·show FOk m u'.gd (s.gc.take a) u'.gd.length (s.gc.take a).length _ (.mk 1 th (a2 : Int) .nil bh)
     refine .go (.inl rfl) hth.go (by omega) (hbh.other (Nat.le_refl _) ?_ ?_ ?_ (Nat.le_refl _) (by omega))
     ·rw [g5, List.take_append_of_le_length (by omega), List.take_take, Nat.min_self]
     ·rw [List.take_take, Nat.min_eq_left ha2]
     ·rw [g5, List.length_append]; omega
   | false =>
    rw [if_neg (by decide), if_neg (by decide)]
    have g8 := g8 rfl
    have := Zmj hS hm hball n nx (mem (setP s (s.gc.take a)) u' W) u a D i3 (by show (s.gc.take a).length ≤ _; omega) (by show u'.gd.length ≤ _; rw [g8]; omega) (by
     show FOk m u'.gd (s.gc.take a) u a D nx
     refine hnx.other (Nat.le_refl _) ?_ ?_ (Nat.le_refl _) (Nat.le_refl _) (Nat.le_refl _)
     ·rw [g8, List.take_take, Nat.min_self]
     ·rw [List.take_take, Nat.min_self]) (by show u ≤ u'.gd.length; rw [g8]; omega) (by show a ≤ (s.gc.take a).length; omega) (by omega)
    exact this
theorem Zyw (hS : SOk S) {m a : Nat} (hm : m ≤ 3000) {s : Gs} (h : Pre m a s) {ball : Gt} (hball : BigT ball) : TF m S s (Z44 k s ball) (Z44 k (sS S s) ball) := by
 obtain ⟨h1, h2, h3, h4, h5⟩ := h
 have hM := Zl
 unfold Z44
 rcases Zmj hk S hS hm hball k s.gh s s.gU.gd.length a (3 * m + 1) h1 (by omega) (by omega) h5 (Nat.le_refl _) h4 (by omega) with ⟨r, e1, e2, e3, e4⟩ | ⟨r, e1, e2, e3, e4⟩
 ·rw [e1, show (sS S s).gh = fF S s.gh from rfl, e2]
  rcases e4 with e4 | e4
  ·exact .full rfl rfl e3 e4
  ·exact .stop rfl rfl e3 e4.1 (.inl e4.2)
 ·rw [e1, show (sS S s).gh = fF S s.gh from rfl, e2]
  exact .stop rfl rfl ⟨e3.1, e3.2.1, e3.2.2⟩ ⟨rfl, e4.db, e4.ot.1, e4.ot.2.1, hball, e4.ot.2.2.2⟩ (.inr rfl)
theorem thrE (hS : SOk S) {m a : Nat} (hm : m ≤ 3000) {s : Gs} (h : Pre m a s) (c : Int) {p : ByteArray} (hp : p.size ≤ 1000) : TF m S s (Z9 k s c p) (Z9 k (sS S s) c p) := by
 obtain ⟨t, e, ht⟩ := Zw4 (kk1 (hk1 hk)) c (.inr hp)
 unfold Z9
 rw [e, obs, obs]
 obtain ⟨r, r', a1, a2, a3⟩ := Zyw hk S hS hm h ht
 exact ⟨r, r', by rw [a1]; rfl, by rw [a2]; rfl, a3⟩
theorem Zcj {m : Nat} {s : Gs} (h : SInv m s) {x : Gt} (hx : BigT x) (s' : Gs) (hs : s'.gU = s.gU) : Z1h k s' x = some (if (fP s.gU.ge x).2 = true then (s', (fP s.gU.ge x).1, true) else (Z8i s' 1, (fP s.gU.ge x).1, false)) := by
 unfold Z1h
 rw [hs, Zjw (hk1 hk) (by have := h.ln; have := h.vl; omega) h.ls hx, obs]
 cases h2 : (fP s.gU.ge x).2 with
 | true => rw [if_neg (by decide), if_pos rfl]
 | false => rw [if_pos (by rfl), if_neg (by decide)]; rfl
theorem Z10y {l : List Gt} (ha : AllB l) {x : Gt} (hx : BigT x) (h : (fP l x).2 = true) : gT 1 (fP l x).1 = true ∧ BigT (fP l x).1 := by
 have _ := hk
 refine ⟨?_, Zly ha hx⟩
 rcases Zw3 ha hx with ⟨h1, _⟩ | ⟨b', o, _, h1, h2, _⟩
 ·rw [h1] at h; cases h
 ·rw [h1]; exact h2
end
def Zul (s : Gs) (t : ByteArray) : Gs := Gs.mk s.gDb s.gU s.gk s.gl s.gw s.gh s.gc (Gw.mk s.gf.gp s.gf.gz s.gf.gx t s.gf.gDb s.gf.gl) s.gv
def Zzx (s : Gs) (d : Gd) : Gs := Gs.mk d s.gU s.gk s.gl s.gw s.gh s.gc s.gf s.gv
theorem SInv.db' {m : Nat} {s : Gs} (h : SInv m s) {d : Gd} (hd : DOk d) : SInv m (Zzx s d) := ⟨hd, h.ls, h.ln, h.vl, h.bd, h.pk, h.ot, h.ov⟩
theorem TF.bind {m : Nat} {S : Sim} {s : Gs} {R R' : Option Gs} (h : TF m S s R R') {f g : Gs → Option Gs} (hf : ∀ r, f r = some r) (hg : ∀ r, g r = some r) : TF m S s (R.bind f) (R'.bind g) := by
 obtain ⟨r, r', a, b, c⟩ := h
 exact ⟨r, r', by rw [a, obs, hf], by rw [b, obs, hg], c⟩
theorem Pre.memo {m a : Nat} {s : Gs} (h : Pre m a s) {u : Gu} {V : Nat} (hV : s.gk = (V : Int)) (g1 : u.ge.length = V) (g2 : AllB u.ge) {e : List Int} (g3 : u.gd = s.gU.gd ++ e) (g4 : ∀ n ∈ e, 0 ≤ n ∧ n < (V : Int)) (g5 : e.length ≤ 2001) : Full m 1 (mem s u V) := by
 have hv := h.1.vl
 refine ⟨h.1.more (v := V) (by omega) (by omega) g1 g2 g3 g4, ?_, ?_, ?_⟩
 ·show u.gd.length ≤ _
  rw [g3, List.length_append]; have := h.2.1; omega
 ·show s.gc.length ≤ _
  have := h.2.2.1; omega
 ·show FOk m u.gd s.gc u.gd.length s.gc.length _ s.gh
  rw [g3]
  exact (h.2.2.2.2.more (D' := 3 * m + 1 + 3 * 1) (by omega)).other (Nat.le_refl _) rfl rfl (Nat.le_refl _) h.2.2.2.1 (Nat.le_refl _)
section
variable {k : Nat} (hk : maxLen + 1100000 < k) (S : Sim)
include hk
theorem Zvy {m : Nat} {s : Gs} (h : SInv m s) {R R' : Option Gs} (h1 : R = some (Z8i s 1)) (h2 : R' = some (Z8i (sS S s) 1)) : TF m S s R R' := have _ := hk; .stop h1 h2 ⟨rfl, rfl, rfl⟩ (h.stop 1) (.inl rfl)
theorem Zxh {m a : Nat} {s : Gs} (h : Pre m a s) {x : Gt} (hx : BigT x) : TF m S s (Z4y k s x) (Z4y k (sS S s) x) := by
 have hk1 := hk1 hk
 unfold Z4y
 rw [Zcj hk h.1 hx s rfl, Zcj hk h.1 hx (sS S s) rfl, obs, obs]
 cases h2 : (fP s.gU.ge x).2 with
 | false => rw [if_neg Bool.false_ne_true, if_neg Bool.false_ne_true]; exact Zvy hk S h.1 rfl rfl
 | true =>
  rw [if_pos rfl, if_pos rfl]
  obtain ⟨g1, g2⟩ := Z10y hk h.1.ls hx h2
  obtain ⟨t, e, ht⟩ := Z11e hk1 g2.1 g1 g2.2.1
  have ho := h.1.ot.2.2.2
  have w : ∀ s' : Gs, s'.gf.gf = s.gf.gf → ((if (!(s', (fP s.gU.ge x).1, true).2.2) = true then some (s', (fP s.gU.ge x).1, true).1 else (Z74 k (s', (fP s.gU.ge x).1, true).2.1).bind fun u0x =>
    if (decide ((wr.i64 (((s', (fP s.gU.ge x).1, true).1.gf.gf.size : Int) + (u0x.size : Int))) > 2000)) = true then (Z1g k (s', (fP s.gU.ge x).1, true).1 1).bind fun u6y => some u6y
    else if Z36 (s', (fP s.gU.ge x).1, true).1.gf.gf u0x then some (Zul s' (s'.gf.gf ++ u0x)) else none : Option Gs)) = if (s.gf.gf.size : Int) + (t.size : Int) > 2000 then some (Z8i s' 1) else some (Zul s' (s.gf.gf ++ t)) := fun s' hs' => by
   rw [if_neg (by simp), e, obs]
   simp only [hs']
   rw [Z4w (by omega) (by omega)]
   by_cases hr : (s.gf.gf.size : Int) + (t.size : Int) > 2000
   ·rw [if_pos (by simpa using hr), if_pos hr]; rfl
   ·rw [if_neg (by simpa using hr), if_neg hr, if_pos (so (by omega))]
  refine (fun hh : TF m S s _ _ => hh) ?_
  show TF m S s _ _
  by_cases hr : (s.gf.gf.size : Int) + (t.size : Int) > 2000
  ·exact Zvy hk S h.1 ((w s rfl).trans (if_pos hr)) ((w (sS S s) rfl).trans (if_pos hr))
  ·have hf := h.full
   refine .full (r := Zul s (s.gf.gf ++ t)) ((w s rfl).trans (if_neg hr)) ((w (sS S s) rfl).trans (if_neg hr)) ⟨rfl, rfl, rfl⟩ ⟨⟨hf.1.db, hf.1.ls, hf.1.ln, hf.1.vl, hf.1.bd, hf.1.pk, ⟨hf.1.ot.1, hf.1.ot.2.1, hf.1.ot.2.2.1, ?_⟩, hf.1.ov⟩, hf.2⟩
   show (s.gf.gf ++ t).size ≤ 2000
   rw [ByteArray.size_append]; omega
theorem Zsz (hS : SOk S) {m a : Nat} (hm : m ≤ 3000) {s : Gs} (h : Pre m a s) {x : Gt} (hx : BigT x) {p : ByteArray} (hp : p.size ≤ 1000) : TF m S s (Z42 k s x p) (Z42 k (sS S s) x p) := by
 have hk1 := hk1 hk
 unfold Z42
 rw [Zcj hk h.1 hx s rfl, Zcj hk h.1 hx (sS S s) rfl, obs, obs]
 cases h2 : (fP s.gU.ge x).2 with
 | false => rw [if_neg Bool.false_ne_true, if_neg Bool.false_ne_true]; exact Zvy hk S h.1 rfl rfl
 | true =>
  rw [if_pos rfl, if_pos rfl, if_neg (by simp), if_neg (by simp)]
  obtain ⟨g1, g2⟩ := Z10y hk h.1.ls hx h2
  obtain ⟨fr, e1, f1⟩ := Zzm hk1 0 g2
  obtain ⟨c, b, e2, f2⟩ := Zyh hk1 f1 (bs [])
  simp only [e1, e2, obs]
  cases b with
  | false =>
   rw [if_pos (by rfl), if_pos (by rfl)]
   exact (thrE hk S hS hm h 2 hp).bind (fun _ => rfl) (fun _ => rfl)
  | true =>
   rw [if_neg (by decide), if_neg (by decide)]
   obtain ⟨d', b2, e3, f3⟩ := Z13l hk1 h.1.db (f2 rfl)
   rw [show (sS S s).gDb = s.gDb from rfl, e3, obs, obs]
   cases b2 with
   | false => rw [if_pos (by rfl), if_pos (by rfl)]; exact Zvy hk S h.1 rfl rfl
   | true =>
    rw [if_neg (by simp), if_neg (by simp)]
    have hf := h.full
    exact .full (r := Zzx s d') rfl rfl ⟨rfl, rfl, rfl⟩ ⟨hf.1.db' (f3 rfl), hf.2⟩
theorem Zno (hS : SOk S) {m : Nat} (hm : m ≤ 3000) {s s2 : Gs} (hs : Zbx s s2) (h : SInv m s2) (hp : s2.gc.length ≤ m + 1) (hb : s2.gU.gd.length ≤ 900000000) (b : Bool) (hf : b = true → Full m 1 s2) : TF m S s (Z6 k b s2) (Z6 k b (sS S s2)) := by
 unfold Z6
 cases b with
 | true => exact .full (r := s2) rfl rfl hs (hf rfl)
 | false =>
  show TF m S s (if (!s2.gv) = true then (Z17 k s2).bind _ else _) (if (!s2.gv) = true then (Z17 k (sS S s2)).bind _ else _)
  rw [h.ov, if_pos (by rfl), if_pos (by rfl)]
  exact ((Ztk hk S hS hm (fF S s2.gh) h hp hb).of hs).bind (fun _ => rfl) (fun _ => rfl)
theorem uni {m a : Nat} (hm : m ≤ 3000) {s : Gs} (h : Pre m a s) {x y : Gt} (hx : MidT x) (hy : MidT y) : ∃ u b, (∀ s', s'.gU = s.gU → s'.gk = s.gk → Z10 k s' x y = some (mem s' u s.gk, b)) ∧ Full m 1 (mem s u s.gk) ∧ (∃ e, u.gd = s.gU.gd ++ e ∧ (∀ n ∈ e, 0 ≤ n ∧ n < s.gk) ∧ e.length ≤ 2001) ∧ u.ge.length = s.gU.ge.length ∧ AllB u.ge := by
 obtain ⟨V, hV, hV2, hV3⟩ := h.1.vars
 obtain ⟨u, b, e1, g1, g2, ⟨e, g3, g4, g5⟩, g6⟩ := Zrj hk (U := s.gU) (V := V) (by omega) hV2 h.1.ls (by rw [← hV]; exact h.1.bd) (by have := h.2.1; omega) hx hy
 rw [hV]
 exact ⟨u, b, e1, h.memo hV g1 g2 g3 g4 g5, ⟨e, g3, g4, g5⟩, by omega, g2⟩
theorem wkT {m : Nat} {s : Gs} (h : SInv m s) {Q : Gt → Prop} (hQ : ∀ z, BigT z → Q z) {x : Gt} (hx : Q x) : Z1y k s.gU.ge x = some (s.gU.ge, wk 5000 s.gU.ge x) ∧ Q (wk 5000 s.gU.ge x) :=
 ⟨(Zq0 (kk1 (hk1 hk)) (by have := h.ln; have := h.vl; omega) x).2, Zpz (fun z hz => hQ z (h.ls z hz)) 5000 x hx⟩
end
section
variable {k : Nat} (hk : maxLen + 1100000 < k) (S : Sim)
include hk
theorem Zgg {m a : Nat} (hm : m ≤ 3000) {s : Gs} (h : Pre m a s) {w : List Gt × Gt} (hw : Nm w.2 ∧ w.2.ga.length ≤ 999999) {zv : Gt} (hz : MidT zv) {V : Nat} (hV : s.gk = (V : Int)) (hV3 : V ≤ 3000) : ∀ (n j : Nat) (U : Gu), j ≤ s.gDb.gq.length → s.gDb.gq.length - j < n → U.ge.length = V → AllB U.ge → U.gd = s.gU.gd →
      (∃ r, Zv k s w zv n (j : Int) (mem s U V) = some (.ret (r, true)) ∧ Zv k (sS S s) w zv n (j : Int) (sS S (mem s U V)) = some (.ret (sS S r, true)) ∧ Zbx s r ∧ (Full m 1 r ∨ (Fini r ∧ r.gf.gz = 1))) ∨
      (∃ u, Zv k s w zv n (j : Int) (mem s U V) = some (.done (mem s u V)) ∧ Zv k (sS S s) w zv n (j : Int) (sS S (mem s U V)) = some (.done (sS S (mem s u V))) ∧ u.ge.length = V ∧ AllB u.ge ∧ u.gd = s.gU.gd)
  | 0, j, U, h1, h2, h3, h4, h5 => by omega
  | n + 1, j, U, h1, h2, h3, h4, h5 => by
    have hk1 := hk1 hk
    have hM := Zl
    have hln := h.1.db.2.1
    by_cases hlt : j < s.gDb.gq.length
    · have hcj := h.1.db.1 _ (List.getElem_mem hlt)
      obtain ⟨d, e1, d1, d2⟩ := upTo hk1 (l := [s.gDb.gq[j].gA, s.gDb.gq[j].gD]) (by have := hcj.head.2.1; have := hcj.body.2.1; simp only [nsum]; omega) (fun x hx => by
        rcases List.mem_cons.1 hx with rfl | hx
        · exact ⟨1, (Zhc hcj.1.2).1⟩
        · rw [List.mem_singleton.1 hx]; exact ⟨1, (Zhc hcj.2.2).1⟩)
      obtain ⟨d, rfl⟩ := Int.eq_ofNat_of_zero_le d1
      obtain ⟨ct, e2, c2⟩ := Ztn hk1 hcj
      obtain ⟨sh, e3, s2⟩ := Zq4 hk1 (V : Int) c2
      have hsh : MidT sh := ⟨s2.1, by rw [s2.2.1]; exact c2.2⟩
      have hwr : wr.i64 ((V : Int) + (d : Int)) = ((V + d : Nat) : Int) := by rw [Z4w (by omega) (by omega)]; omega
      have hp1 := Zd6 (k := k) hcj.head.2.2 (by have := Z6h hcj.head; omega)
      have hp2 := Zd6 (k := k) hw.1 hw.2
      obtain ⟨U2, hU2⟩ : ∃ U2 : Gu, U2 = ⟨grow U.ge (V + d), U.gd, U.gu⟩ := ⟨_, rfl⟩
      have U2b : U2.gd = s.gU.gd := by rw [hU2]; exact h5
      obtain ⟨u, b, e4, g1, g2, ⟨e, g3, g4, g5⟩, g6⟩ := Zrj hk (U := U2) (V := V + d) (by omega) (by rw [hU2]; exact Z6f _ _) (by rw [hU2]; exact Zdk h4 _) (by
        rw [U2b]
        intro x hx
        have := h.1.bd x hx
        omega) (by rw [U2b]; have := h.2.1; omega) hsh hz
      rw [U2b] at g3 g6
      have st : ∀ s' s0 : Gs, s'.gU = U → s'.gk = (V : Int) → s0.gDb.gq = s.gDb.gq → s'.gDb = s.gDb → Zv k s0 w zv (n + 1) (j : Int) s' =
          if sEq (Z3c s.gDb.gq[j].gA) (Z3c w.2) = true then
            (if b = true then (if ((V + d : Nat) : Int) ≤ 3000 then some (.ret (Zzx (mem s' u (V + d : Nat)) (Gd.mk (s.gDb.gq.take j ++ s.gDb.gq.drop (j + 1)) s.gDb.gy), true)) else some (.ret (Z8i (mem s' u (V + d : Nat)) 1, true)))
             else Zv k s0 w zv n ((j + 1 : Nat) : Int) (mem s' ⟨grow u.ge V, u.gd, u.gu⟩ V))
          else Zv k s0 w zv n ((j + 1 : Nat) : Int) s' := fun s' s0 q1 q2 q3 q4 => by
        have hj1 : wr.i64 ((j : Int) + 1) = ((j + 1 : Nat) : Int) := Z3v hlt (by omega)
        rw [Zv, q3, if_pos (by simpa using hlt), Z4c hlt, obs, hp1, obs, hp2, obs, hj1]
        cases hsq : sEq (Z3c s.gDb.gq[j].gA) (Z3c w.2) with
        | false => rw [if_pos (by rfl), if_neg Bool.false_ne_true]
        | true =>
          rw [if_neg (show ¬ (!true) = true by decide), if_pos rfl, e1, obs, q2, hwr, useS hk1 (v := V + d) (by omega) s' (by rw [q1]; omega), obs, e2, obs, e3, obs, q1]
          rw [show Z10 k (mem s' ⟨grow U.ge (V + d), U.gd, U.gu⟩ (V + d : Nat)) sh zv = some (mem (mem s' ⟨grow U.ge (V + d), U.gd, U.gu⟩ (V + d : Nat)) u (V + d : Nat), b) from e4 _ hU2.symm rfl, obs]
          cases b with
          | false =>
            rw [if_pos (by rfl), if_neg Bool.false_ne_true]
            show ((Z20 k (mem s' u (V + d : Nat)) (V : Int)).bind _) = _
            rw [useS hk1 (v := V) (by omega) (mem s' u (V + d : Nat)) (by show u.ge.length ≤ _; omega), obs]
            rfl
          | true =>
            rw [if_neg (by simp), if_pos rfl]
            by_cases hr : ((V + d : Nat) : Int) ≤ 3000
            · rw [decide_eq_true hr, if_neg (by simp), if_pos hr]
              show ((Z3s k s'.gDb.gq).bind _) = _
              rw [q4, Zzo hk1 (by omega) h.1.db.mid.1, obs]
              unfold Z1x
              rw [if_pos ⟨⟨by omega, by omega⟩, by omega⟩, obs, Int.toNat_natCast, Int.toNat_natCast]
              show some (Out.ret (Gs.mk (Gd.mk _ s'.gDb.gy) _ _ _ _ _ _ _ _, true)) = _
              rw [q4]
              rfl
            · rw [decide_eq_false hr, if_pos (by rfl), if_neg hr]
              rfl
      rw [st (mem s U V) s rfl rfl rfl rfl, st (sS S (mem s U V)) (sS S s) rfl rfl rfl rfl]
      clear st
      by_cases hsq : ¬ sEq (Z3c s.gDb.gq[j].gA) (Z3c w.2) = true
      · rw [if_neg hsq, if_neg hsq]
        exact Zgg hm h hw hz hV hV3 n (j + 1) U (by omega) (by omega) h3 h4 h5
      have hsq := Decidable.not_not.1 hsq
      rw [if_pos hsq, if_pos hsq]
      cases b with
      | false =>
        rw [if_neg Bool.false_ne_true, if_neg Bool.false_ne_true]
        exact Zgg hm h hw hz hV hV3 n (j + 1) ⟨grow u.ge V, u.gd, u.gu⟩ (by omega) (by omega) (Z6f _ _) (Zdk g2 _) (g6 rfl)
      | true =>
        rw [if_pos rfl, if_pos rfl]
        refine .inl ?_
        by_cases hr : ¬ ((V + d : Nat) : Int) ≤ 3000
        · rw [if_neg hr, if_neg hr]
          exact ⟨_, rfl, rfl, ⟨rfl, rfl, rfl⟩, .inr ⟨⟨rfl, h.1.db, h.1.ot⟩, rfl⟩⟩
        have hr := Decidable.not_not.1 hr
        rw [if_pos hr, if_pos hr]
        refine ⟨_, rfl, rfl, ⟨rfl, rfl, rfl⟩, .inl ⟨(h.1.more (v := V + d) (by omega) (by omega) g1 g2 g3 g4).db' ⟨fun c hc => ?_, ?_, h.1.db.2.2⟩, ?_, ?_, ?_⟩⟩
        · rcases List.mem_append.1 hc with hc | hc
          · exact h.1.db.1 c (List.mem_of_mem_take hc)
          · exact h.1.db.1 c (List.mem_of_mem_drop hc)
        · show (s.gDb.gq.take j ++ s.gDb.gq.drop (j + 1)).length ≤ 120
          rw [List.length_append, List.length_take, List.length_drop]; omega
        · show u.gd.length ≤ _
          rw [g3, List.length_append]; have := h.2.1; omega
        · show s.gc.length ≤ _
          have := h.2.2.1; omega
        · show FOk m u.gd s.gc u.gd.length s.gc.length _ s.gh
          rw [g3]
          exact (h.2.2.2.2.more (D' := 3 * m + 1 + 3 * 1) (by omega)).other (Nat.le_refl _) rfl rfl (Nat.le_refl _) h.2.2.2.1 (Nat.le_refl _)
    · refine .inr ⟨U, ?_, ?_, h3, h4, h5⟩
      · rw [Zv, if_neg (by simpa using hlt)]
      · rw [Zv, show (sS S s).gDb = s.gDb from rfl, if_neg (by simpa using hlt)]
theorem Zzw : BigT (.mk 2 (bs [116, 114, 117, 101]) 0 []) := have _ := hk; Zte (by omega) (by decide) (by omega)
theorem Zw2 : BigT (.mk 2 (bs [102, 97, 105, 108]) 0 []) := have _ := hk; Zte (by omega) (by decide) (by omega)
theorem twoT {n : ByteArray} (hn : n.size ≤ 20) {x y : Gt} (hx : BigT x) (hy : BigT y) : GoT (.mk 4 n 0 [x, y]) := by
 have _ := hk
 have all : ∀ P : Gt → Prop, P x → P y → ∀ z ∈ [x, y], P z := fun P p q z hz => by
  rcases List.mem_cons.1 hz with rfl | hz
  ·exact p
  ·rw [List.mem_singleton.1 hz]; exact q
 refine ⟨⟨Zi2 (by omega) (by omega) (by omega) (by simp) (all _ hx.1 hy.1), ?_⟩, .mk hn (all _ hx.2.2 hy.2.2), all _ hx hy⟩
 have := hx.2.1
 have := hy.2.1
 rw [Zmx]
 simp only [nsum]
 omega
theorem Zxu (hS : SOk S) {m a : Nat} (hm : m ≤ 3000) {s : Gs} (h : Pre m a s) {x : Gt} (hx : BigT x) {p : ByteArray} (hp : p.size ≤ 1000) :
      (∃ r r', Z2o k s x p = some (r, true) ∧ Z2o k (sS S s) x p = some (r', true) ∧ Rel m S s r r') ∨
      (∃ u, Z2o k s x p = some (mem s u s.gk, false) ∧ Z2o k (sS S s) x p = some (sS S (mem s u s.gk), false) ∧ SInv m (mem s u s.gk) ∧ u.gd = s.gU.gd) := by
  have hM := Zl
  obtain ⟨V, hV, hV2, hV3⟩ := h.1.vars
  obtain ⟨e1, hw⟩ := wkT hk h.1 (fun _ h => h) hx
  have J : ∀ zv y : Gt, MidT zv → at' zv.ga 0 = some y → BigT y →
      (∃ r r', Z1w k (s.gU.ge, wk 5000 s.gU.ge x) s p zv = some (r, true) ∧ Z1w k (s.gU.ge, wk 5000 s.gU.ge x) (sS S s) p zv = some (r', true) ∧ Rel m S s r r') ∨
      (∃ u, Z1w k (s.gU.ge, wk 5000 s.gU.ge x) s p zv = some (mem s u s.gk, false) ∧ Z1w k (s.gU.ge, wk 5000 s.gU.ge x) (sS S s) p zv = some (sS S (mem s u s.gk), false) ∧ SInv m (mem s u s.gk) ∧ u.gd = s.gU.gd) := fun zv y hz ha hy => by
    obtain ⟨e2, hh⟩ := wkT hk h.1 (fun _ h => h) hy
    have hkk := Z6h hh
    have e3 := Zd6 (k := k) hh.2.2 (by omega)
    unfold Z1w
    rw [ha, obs, obs]
    simp only [e2, obs]
    by_cases c1 : ((wk 5000 s.gU.ge y).gi == 1) = true
    · rw [if_pos c1, if_pos c1]
      obtain ⟨r, r', a1, a2, a3⟩ := thrE hk S hS hm h 1 hp
      exact .inl ⟨r, r', by rw [show Z9 k (Gs.mk s.gDb (Gu.mk s.gU.ge s.gU.gd s.gU.gu) s.gk s.gl s.gw s.gh s.gc s.gf s.gv) 1 p = some r from a1]; rfl, (congrArg (fun o => Option.bind o _) a2).trans rfl, a3⟩
    rw [if_neg c1, if_neg c1, e3, obs, obs]
    by_cases c2 : sEq (Z3c (wk 5000 s.gU.ge y)) (bs []) = true
    · rw [if_pos c2, if_pos c2]
      obtain ⟨r, r', a1, a2, a3⟩ := thrE hk S hS hm h 2 hp
      exact .inl ⟨r, r', (congrArg (fun o => Option.bind o _) a1).trans rfl, (congrArg (fun o => Option.bind o _) a2).trans rfl, a3⟩
    rw [if_neg c2, if_neg c2]
    have hs : mem s s.gU (V : Int) = s := by rw [← hV]; rfl
    rcases Zgg hk S hm h (w := (s.gU.ge, wk 5000 s.gU.ge y)) ⟨hh.2.2, (by show (wk 5000 s.gU.ge y).ga.length ≤ 999999; omega)⟩ hz hV hV3 k 0 s.gU (by omega) (by have := h.1.db.2.1; omega) hV2 h.1.ls rfl with ⟨r, a1, a2, a3, a4⟩ | ⟨u, a1, a2, a3, a4, a5⟩
    · rw [hs, show ((0 : Nat) : Int) = 0 from rfl] at a1 a2
      exact .inl ⟨r, _, (congrArg (fun o => Option.bind o _) a1).trans rfl, (congrArg (fun o => Option.bind o _) a2).trans rfl, a3, .inl ⟨rfl, a4.imp id fun h => ⟨h.1, .inl h.2⟩⟩⟩
    · rw [hs, show ((0 : Nat) : Int) = 0 from rfl, ← hV] at a1 a2
      exact .inr ⟨u, (congrArg (fun o => Option.bind o _) a1).trans rfl, (congrArg (fun o => Option.bind o _) a2).trans rfl, (by rw [hV]; exact h.1.more (e := []) hV3 (by omega) a3 a4 (by simp [a5]) (fun x hx => by cases hx)), a5⟩
  unfold Z2o
  rw [show (sS S s).gU = s.gU from rfl, e1, obs, obs]
  obtain ⟨b, e2, hb⟩ := isSt k (wk 5000 s.gU.ge x) (bs [58, 45]) 2
  rw [e2, obs, obs]
  cases b with
  | false =>
    rw [if_pos (by rfl), if_pos (by rfl)]
    exact J (.mk 4 (bs [58, 45]) 0 [wk 5000 s.gU.ge x, .mk 2 (bs [116, 114, 117, 101]) 0 []]) _ (twoT hk (by decide) hw (Zzw hk)).1 rfl hw
  | true =>
    rw [if_neg (by decide), if_neg (by decide)]
    have hl : (wk 5000 s.gU.ge x).ga.length = 2 := by have := hb rfl; omega
    have h0 : 0 < (wk 5000 s.gU.ge x).ga.length := by omega
    exact J _ _ hw.mid (Z4c h0) (Z98 hw (List.getElem_mem _))
end
section
variable {k : Nat} (hk : maxLen + 1100000 < k) (S : Sim)
include hk
theorem Zz9 {m a : Nat} (hm : m ≤ 3000) (hE : S.E.length ≤ 1) {s : Gs} (h : Pre m a s) {f : Gf} (hf : f = .nil ∨ ∃ (g : Gt), GoT g ∧ f = .mk 1 g (a : Int) .nil s.gh) :
  ∃ pl : Gp, Z1e k s f = some (setP s (s.gc ++ [pl]), GNp.mk (s.gc.length : Int) (s.gU.gd.length : Int) s.gk f) ∧
   (Z1e k (sS S s) (sG S f) = some (sS S (setP s (s.gc ++ [pl])), GNp.mk ((s.gc.length : Int) + S.c) (s.gU.gd.length : Int) s.gk (sG S f))) ∧ SInv m (setP s (s.gc ++ [pl])) := by
 have _ := hk
 obtain ⟨V, hV, hV2, hV3⟩ := h.1.vars
 have h3 := h.2.2.1
 obtain ⟨pl, hpl⟩ : ∃ pl : Gp, pl = Gp.mk (s.gc.length : Int) (s.gU.gd.length : Int) s.gk f (Gt.mk 0 (bs []) 0 []) [] .nil := ⟨_, rfl⟩
 refine ⟨pl, ?_, ?_, ?_⟩
 ·unfold Z1e
  rw [if_pos (by show s.gc.length + 1 ≤ _; omega), hpl]
  rfl
 ·unfold Z1e
  have lS : ((sS S s).gc.length : Int) = (s.gc.length : Int) + S.c := Zff S s
  have hpS : sP S pl = Gp.mk ((s.gc.length : Int) + S.c) (s.gU.gd.length : Int) s.gk (sG S f) (Gt.mk 0 (bs []) 0 []) [] .nil := by rw [hpl]; rfl
  rw [if_pos (by show (S.E ++ s.gc.map (sP S)).length + 1 ≤ _; rw [List.length_append, List.length_map]; omega), lS]
  show some (setP (sS S s) (S.E ++ s.gc.map (sP S) ++ [Gp.mk ((s.gc.length : Int) + S.c) (s.gU.gd.length : Int) s.gk (sG S f) (Gt.mk 0 (bs []) 0 []) [] .nil]), _) = _
  rw [← hpS, List.append_assoc, show s.gc.map (sP S) ++ [sP S pl] = (s.gc ++ [pl]).map (sP S) by rw [List.map_append]; rfl]
  rfl
 ·refine h.1.place (t := s.gU.gd.length) (v := V) ⟨by rw [hpl], by rw [hpl], by rw [hpl]; exact hV, Nat.le_refl _, h.2.1, hV3, fun x hx => by rw [← hV]; exact (h.1.bd x (List.mem_of_mem_take hx)).2, by rw [List.take_left' rfl]; exact h.1.trails, .inr ⟨by rw [hpl], ?_⟩⟩
  rw [hpl]
  show FOk m s.gU.gd (s.gc ++ [_]) s.gU.gd.length s.gc.length (3 * m + 4) f
  rcases hf with rfl | ⟨g, hg, rfl⟩
  ·exact .nil
  ·exact .go (.inl rfl) hg h.2.2.2.1 (h.2.2.2.2.other (Nat.le_refl _) rfl (Zaw (n := s.gc.length) (by rw [List.take_left' rfl, List.take_length]) h.2.2.2.1) (Nat.le_refl _) (Nat.le_refl _) (by omega))
theorem GoT.of {x : Gt} (h : GoT x) : MidT x := have _ := hk; h.1
theorem Zrd (hS : SOk S) {m a : Nat} (hm : m ≤ 3000) {s : Gs} (h : Pre m a s) {x y : Gt} (hx : GoT x) (hy : GoT y) : TF m S s (Z28 k s x y (a : Int)) (Z28 k (sS S s) x y ((a : Int) + S.c)) := by
 have hE := Zxn hk S hS
 obtain ⟨e1, hw⟩ := wkT hk h.1 (fun _ h => BigT.go h) hx
 obtain ⟨pl, e2, e3, i1⟩ := Zz9 hk S hm hE h (f := .mk 1 y (a : Int) .nil s.gh) (.inr ⟨y, hy, rfl⟩)
 have hsG : sG S (.mk 1 y (a : Int) .nil s.gh) = .mk 1 y ((a : Int) + S.c) .nil (fF S s.gh) := by
  show fF S _ = _
  rw [fF, if_neg (by decide), fC]
 rw [hsG] at e3
 obtain ⟨b, e4, hb⟩ := isSt k (wk 5000 s.gU.ge x) (bs [45, 62]) 2
 have h3 := h.2.2.1
 have h4 := h.2.2.2.1
 have lenP : (s.gc ++ [pl]).length = s.gc.length + 1 := by simp
 have fg : FOk m s.gU.gd (s.gc ++ [pl]) s.gU.gd.length a (3 * m + 1) s.gh := h.2.2.2.2.other (Nat.le_refl _) rfl (Zaw (n := s.gc.length) (by rw [List.take_left' rfl, List.take_length]) h4) (Nat.le_refl _) (Nat.le_refl _) (Nat.le_refl _)
 have lS : ((sS S s).gc.length : Int) = (s.gc.length : Int) + S.c := Zff S s
 unfold Z28
 rw [show (sS S s).gU = s.gU from rfl, e1, obs, obs, e4, obs, obs]
 have n1 : Z1e k (Gs.mk s.gDb (Gu.mk s.gU.ge s.gU.gd s.gU.gu) s.gk s.gl s.gw s.gh s.gc s.gf s.gv) (.mk 1 y (a : Int) .nil s.gh) = _ := e2
 have n2 : Z1e k (Gs.mk (sS S s).gDb (Gu.mk s.gU.ge s.gU.gd s.gU.gu) (sS S s).gk (sS S s).gl (sS S s).gw (sS S s).gh (sS S s).gc (sS S s).gf (sS S s).gv) (.mk 1 y ((a : Int) + S.c) .nil (sS S s).gh) = _ := e3
 cases b with
 | false =>
  rw [if_pos (by rfl), if_pos (by rfl)]
  simp only [n1, n2, obs]
  refine .full (r := Zbb (setP s (s.gc ++ [pl])) x (a : Int)) rfl (by rw [Z9s]; rfl) ⟨rfl, rfl, rfl⟩ ⟨i1.goals _, ?_, ?_, ?_⟩
  ·have := h.2.1; show s.gU.gd.length ≤ _; omega
  ·show (s.gc ++ [pl]).length ≤ _; omega
  ·show FOk m s.gU.gd (s.gc ++ [pl]) s.gU.gd.length (s.gc ++ [pl]).length _ (.mk 1 x (a : Int) .nil s.gh)
   exact .go (.inl rfl) hx (by omega) (fg.other (Nat.le_refl _) rfl rfl (Nat.le_refl _) (Nat.le_refl _) (by omega))
 | true =>
  rw [if_neg (show ¬ (!true) = true by decide), if_neg (show ¬ (!true) = true by decide)]
  have hl : (wk 5000 s.gU.ge x).ga.length = 2 := by have := hb rfl; omega
  have p0 : 0 < (wk 5000 s.gU.ge x).ga.length := by omega
  have p1 : 1 < (wk 5000 s.gU.ge x).ga.length := by omega
  have a0 := Z4c p0
  have a1 := Z4c p1
  rw [show ((0 : Nat) : Int) = 0 from rfl] at a0
  rw [show ((1 : Nat) : Int) = 1 from rfl] at a1
  have b0 := hw.2.2 _ (List.getElem_mem p0)
  have b1 := hw.2.2 _ (List.getElem_mem p1)
  generalize (wk 5000 s.gU.ge x).ga[0] = k0 at a0 b0
  generalize (wk 5000 s.gU.ge x).ga[1] = k1 at a1 b1
  simp only [n1, n2, a0, a1, obs, Z10b]
  obtain ⟨s1, hs1⟩ : ∃ s1 : Gs, s1 = Zbb (setP s (s.gc ++ [pl])) k1 (a : Int) := ⟨_, rfl⟩
  have c1 : sS S s1 = Zbb (sS S (setP s (s.gc ++ [pl]))) k1 ((a : Int) + S.c) := by rw [hs1, Z9s]
  rw [← hs1, ← c1]
  have l1 : s1.gc.length = s.gc.length + 1 := by rw [hs1]; exact lenP
  have l2 : ((sS S s1).gc.length : Int) = (s.gc.length : Int) + 1 + S.c := by rw [Zff, l1]; omega
  refine .full (r := Zbb (setG s1 (.mk 2 (Gt.mk 0 (bs []) 0 []) (s.gc.length : Int) .nil s1.gh)) k0 ((s.gc.length + 1 : Nat) : Int)) ?_ ?_ (by rw [hs1]; exact ⟨rfl, rfl, rfl⟩) ⟨by rw [hs1]; exact ((i1.goals _).goals _).goals _, ?_, ?_, ?_⟩
  ·rw [l1]; rfl
  ·rw [Z9s, Zq9, fF, if_neg (by decide), fC, l2]
   rw [show ((s.gc.length + 1 : Nat) : Int) = (s.gc.length : Int) + 1 by omega]
   rfl
  ·rw [hs1]; have := h.2.1; show s.gU.gd.length ≤ _; omega
  ·rw [hs1]; show (s.gc ++ [pl]).length ≤ _; omega
  ·rw [hs1]
   show FOk m s.gU.gd (s.gc ++ [pl]) s.gU.gd.length (s.gc ++ [pl]).length (3 * m + 1 + 1 + 1 + 1) (.mk 1 k0 ((s.gc.length + 1 : Nat) : Int) .nil (.mk 2 (Gt.mk 0 (bs []) 0 []) (s.gc.length : Int) .nil (.mk 1 k1 (a : Int) .nil s.gh)))
   exact .go (.inl rfl) b0.go (by omega) (.go (.inr rfl) Zpx.go (by omega) (.go (.inl rfl) b1.go h4 fg))
theorem Zs3 : ∀ {l : List Gt}, (∀ z ∈ l, BigT z) → nsum nT l ≤ 401 * l.length
 | [], h => Nat.le_refl _
 | x :: l, h => by
  have _ := hk
  have h1 := (h x (List.mem_cons_self ..)).2.1
  have := Zs3 fun z hz => h z (List.mem_cons_of_mem _ hz)
  simp only [nsum, List.length_cons]
  omega
theorem Zwg (hS : SOk S) {m a : Nat} (hm : m ≤ 3000) {s : Gs} (h : Pre m a s) {x : Gt} (hx : GoT x) (hk1x : 1 ≤ x.ga.length) (hk5x : x.ga.length ≤ 100) {p : ByteArray} (hp : p.size ≤ 1000) : TF m S s (Z3i k s x p) (Z3i k (sS S s) x p) := by
 have p0 : 0 < x.ga.length := by omega
 have a0 := Z4c p0
 rw [show ((0 : Nat) : Int) = 0 from rfl] at a0
 have b0 := hx.2.2 _ (List.getElem_mem p0)
 generalize x.ga[0] = y at a0 b0
 obtain ⟨e1, hw⟩ := wkT hk h.1 (fun _ h => h) b0
 have hkk := Z6h hw
 have lS : ((sS S s).gc.length : Int) = (s.gc.length : Int) + S.c := Zff S s
 unfold Z3i
 rw [show (sS S s).gU = s.gU from rfl, a0, obs, obs, e1, obs, obs]
 have hsub : sub3 x.ga (1 : Int) (x.ga.length : Int) = x.ga.drop 1 := Znv (j := 1)
 have d1 : ([] : List Gt).length + (wk 5000 s.gU.ge y).ga.length ≤ 1073741824 := by simp; omega
 have d2 : 0 ≤ (1 : Int) ∧ (1 : Int) ≤ (x.ga.length : Int) ∧ (x.ga.length : Int) ≤ (x.ga.length : Int) := ⟨by omega, by omega, by omega⟩
 have d3 : (wk 5000 s.gU.ge y).ga.length + (x.ga.drop 1).length ≤ 1073741824 := by rw [List.length_drop]; omega
 simp only [if_pos d1, if_pos d2, hsub, if_pos d3]
 have J : ∀ b : Bool, (b = false → ((wk 5000 s.gU.ge y).ga ++ x.ga.drop 1).length ≤ 5) → TF m S s (Z2q k s (s.gU.ge, wk 5000 s.gU.ge y) p x b) (Z2q k (sS S s) (s.gU.ge, wk 5000 s.gU.ge y) p x b) := fun b hb => by
  unfold Z2q
  cases b with
  | true => exact (thrE hk S hS hm h 2 hp).bind (fun _ => rfl) (fun _ => rfl)
  | false =>
   have hb := hb rfl
   rw [if_neg Bool.false_ne_true, if_neg Bool.false_ne_true]
   simp only [hsub]
   have all : ∀ z ∈ (wk 5000 s.gU.ge y).ga ++ x.ga.drop 1, BigT z := fun z hz => by
    rcases List.mem_append.1 hz with hz | hz
    ·exact Z98 hw hz
    ·exact hx.2.2 z (List.mem_of_mem_drop hz)
   have hnn := hw.2.2.name
   obtain ⟨g, hg⟩ : ∃ g : Gt, g = .mk 4 (wk 5000 s.gU.ge y).gn 0 ((wk 5000 s.gU.ge y).ga ++ x.ga.drop 1) := ⟨_, rfl⟩
   have gg : GoT g := by
    rw [hg]
    refine ⟨⟨Zi2 (by omega) (by omega) (by omega) (by omega) (fun z hz => (all z hz).1), ?_⟩, .mk hnn (fun z hz => (all z hz).2.2), all⟩
    have := Zs3 hk all
    rw [Zmx]
    omega
   have hf := h.full
   refine .full (r := Zbb s g (s.gc.length : Int)) (by rw [hg]; rfl) (by rw [Z9s, hg, ← lS]; rfl) ⟨rfl, rfl, rfl⟩ ⟨h.1.goals _, hf.2.1, hf.2.2.1, ?_⟩
   show FOk m s.gU.gd s.gc s.gU.gd.length s.gc.length (3 * m + 1 + 2 + 1) (.mk 1 g (s.gc.length : Int) .nil s.gh)
   exact .go (.inl rfl) gg (Nat.le_refl _) (h.2.2.2.2.other (Nat.le_refl _) rfl rfl (Nat.le_refl _) h.2.2.2.1 (by omega))
 by_cases c1 : ((wk 5000 s.gU.ge y).gi == 1) = true
 ·rw [if_pos c1, if_pos c1]
  exact (thrE hk S hS hm h 1 hp).bind (fun _ => rfl) (fun _ => rfl)
 rw [if_neg c1, if_neg c1]
 by_cases c3 : ((wk 5000 s.gU.ge y).gi == 3) = true
 ·rw [if_pos c3, if_pos c3]
  exact J true (fun h => by cases h)
 rw [if_neg c3, if_neg c3]
 exact J _ (fun h => by
  have := of_decide_eq_false h
  omega)
theorem Zwf (hS : SOk S) {m a : Nat} (hm : m ≤ 3000) {s : Gs} (h : Pre m a s) {x : Gt} (hx : GoT x) {p : ByteArray} (hp : p.size ≤ 1000) : TF m S s (Z3h k s x p) (Z3h k (sS S s) x p) := by
 have hk1 := hk1 hk
 have hE := Zxn hk S hS
 obtain ⟨l, e1, l1, l2⟩ := Zwd hk1 h.1.db p
 obtain ⟨b, e2⟩ := Z13g hk1 h.1.db p
 have J : TF m S s (Z2p k s x l) (Z2p k (sS S s) x l) := by
  unfold Z2p
  rcases Zrt hk S hm hE h.1 h.2.1 h.2.2.1 (h.2.2.2.2.other (Nat.le_refl _) rfl rfl (Nat.le_refl _) h.2.2.2.1 (Nat.le_refl _)) hx l1 l2 with ⟨r, a1, a2, a3, a4⟩ | ⟨u, a1, a2, a3, a4⟩
  ·rw [a1, a2, obs, obs, if_neg (show ¬ (!true) = true by decide), if_neg (show ¬ (!true) = true by decide)]
   rcases a4 with a4 | a4
   ·exact .full rfl rfl a3 a4
   ·exact .stop rfl rfl a3 a4.1 (.inl a4.2)
  ·rw [a1, a2, obs, obs, if_pos (show (!false) = true from rfl), if_pos (show (!false) = true from rfl)]
   have := Ztk hk S hS hm (fF S (mem s u s.gk).gh) a3 (by show s.gc.length ≤ _; have := h.2.2.1; omega) (by show u.gd.length ≤ _; rw [a4]; have := h.2.1; omega)
   exact (this.of ⟨rfl, rfl, rfl⟩).bind (fun _ => rfl) (fun _ => rfl)
 unfold Z3h
 rw [show (sS S s).gDb = s.gDb from rfl, e1, obs, obs]
 by_cases c : ((l.length : Int) == 0) = true
 ·rw [if_pos c, if_pos c, e2, obs, obs]
  cases b with
  | true => rw [if_neg (by decide), if_neg (by decide)]; exact J
  | false =>
   rw [if_pos (by rfl), if_pos (by rfl)]
   exact (thrE hk S hS hm h 0 hp).bind (fun _ => rfl) (fun _ => rfl)
 ·rw [if_neg c, if_neg c]; exact J
end
section
variable {k : Nat} (hk : maxLen + 1100000 < k) (S : Sim)
include hk
theorem Z10z {m : Nat} {s : Gs} (h : SInv m s) {x : Gt} (hx : BigT x) : ∃ r, Z46 k s.gU.ge x 1 = some r ∧ -999999999 ≤ r.1 ∧ r.1 ≤ 999999999 := by
 have hk1 := hk1 hk
 exact Z12n k 1 s.gU.ge x (by have := h.ln; have := h.vl; omega) h.ls hx (by decide) (Nat.lt_of_le_of_lt (Nat.add_le_add_left (by decide) _) hk1)
theorem intT {n : Int} (h1 : -999999999 ≤ n) (h2 : n ≤ 999999999) : BigT (.mk 3 (bs []) n []) := have _ := hk; Zte (by omega) (by decide) (by omega)
theorem Z12u (hS : SOk S) {m a : Nat} (hm : m ≤ 3000) {s : Gs} (h : Pre m a s) {x : Gt} (hx : GoT x) (h1 : 1 ≤ x.ga.length) (h100 : x.ga.length ≤ 3000) {p : ByteArray} (hp : p.size ≤ 1000) : TF m S s (Z50 k s x p) (Z50 k (sS S s) x p) := by
 have hk1 := hk1 hk
 have p0 : 0 < x.ga.length := by omega
 have pn : x.ga.length - 1 < x.ga.length := by omega
 have a0 := Z4c p0
 have an := Z4c pn
 rw [show ((0 : Nat) : Int) = 0 from rfl] at a0
 rw [show ((x.ga.length - 1 : Nat) : Int) = wr.i64 ((x.ga.length : Int) - 1) by rw [Z4w (by omega) (by omega)]; omega] at an
 have b0 := hx.2.2 _ (List.getElem_mem p0)
 have bn := hx.2.2 _ (List.getElem_mem pn)
 generalize x.ga[0] = y at a0 b0
 generalize x.ga[x.ga.length - 1] = z at an bn
 have hfull := h.full
 have hpl : s.gc.length ≤ m + 1 := by have := h.2.2.1; omega
 have hbl : s.gU.gd.length ≤ 900000000 := by have := h.2.1; omega
 have U : ∀ (v w : Gt), BigT v → BigT w → TF m S s ((Z10 k s v w).bind fun r => Z6 k r.2 r.1) ((Z10 k (sS S s) v w).bind fun r => Z6 k r.2 r.1) := fun v w hv hw => by
  obtain ⟨u, b, e1, e2, ⟨e, e3, e4, e5⟩, _⟩ := uni hk hm h hv.mid hw.mid
  rw [e1 s rfl rfl, e1 (sS S s) rfl rfl, obs, obs]
  exact Zno hk S hS hm ⟨rfl, rfl, rfl⟩ e2.1 hpl (by show u.gd.length ≤ _; rw [e3, List.length_append]; have := h.2.1; omega) b (fun _ => e2)
 have JT : ∀ b : Bool, TF m S s (Z6 k b s) (Z6 k b (sS S s)) := fun b => Zno hk S hS hm (.refl s) h.1 hpl hbl b (fun _ => hfull)
 have TE : ∀ c : Int, TF m S s ((Z9 k s c p).bind fun r => some r) ((Z9 k (sS S s) c p).bind fun r => some r) := fun c => (thrE hk S hS hm h c hp).bind (fun _ => rfl) (fun _ => rfl)
 have J3 : ∀ (r : Int × Int) (c d : Int), TF m S s (Z3j k s p r c d) (Z3j k (sS S s) p r c d) := fun r c d => by
  unfold Z3j
  by_cases c1 : (c != 0) = true
  ·rw [if_pos c1, if_pos c1]; exact TE c
  rw [if_neg c1, if_neg c1]
  by_cases c2 : sEq p (bs [60, 47, 50]) = true
  ·rw [if_pos c2, if_pos c2]
   by_cases c3 : decide (r.1 < d) = true
   ·rw [if_pos c3, if_pos c3]; exact JT _
   rw [if_neg c3, if_neg c3]
   by_cases c4 : sEq p (bs [61, 58, 61, 47, 50]) = true
   ·rw [if_pos c4, if_pos c4]; exact JT _
   ·rw [if_neg c4, if_neg c4]; exact JT _
  rw [if_neg c2, if_neg c2]
  by_cases c4 : sEq p (bs [61, 58, 61, 47, 50]) = true
  ·rw [if_pos c4, if_pos c4]; exact JT _
  ·rw [if_neg c4, if_neg c4]; exact JT _
 have J2 : ∀ b : Bool, TF m S s (Z3k k s y z p b) (Z3k k (sS S s) y z p b) := fun b => by
  unfold Z3k
  rw [show (sS S s).gU = s.gU from rfl]
  cases b with
  | true =>
   rw [if_pos rfl, if_pos rfl]
   obtain ⟨r, e1, _⟩ := Z10z hk h.1 b0
   obtain ⟨q, e2, _⟩ := Z10z hk h.1 bn
   rw [e1, obs, obs]
   by_cases c : (r.2 == 0) = true
   ·rw [if_pos c, if_pos c, e2, obs, obs]; exact J3 _ _ _
   ·rw [if_neg c, if_neg c]; exact J3 _ _ _
  | false =>
   rw [if_neg Bool.false_ne_true, if_neg Bool.false_ne_true]
   obtain ⟨e1, hw⟩ := wkT hk h.1 (fun _ h => h) b0
   by_cases c1 : sEq p (bs [118, 97, 114, 47, 49]) = true
   ·rw [if_pos c1, if_pos c1, e1, obs, obs]; exact JT _
   rw [if_neg c1, if_neg c1]
   by_cases c2 : sEq p (bs [97, 116, 111, 109, 47, 49]) = true
   ·rw [if_pos c2, if_pos c2, e1, obs, obs]; exact JT _
   rw [if_neg c2, if_neg c2]
   by_cases c3 : sEq p (bs [119, 114, 105, 116, 101, 47, 49]) = true
   ·rw [if_pos c3, if_pos c3]; exact (Zxh hk S h b0).bind (fun _ => rfl) (fun _ => rfl)
   rw [if_neg c3, if_neg c3]
   by_cases c4 : sEq p (bs [97, 115, 115, 101, 114, 116, 122, 47, 49]) = true
   ·rw [if_pos c4, if_pos c4]; exact (Zsz hk S hS hm h b0 hp).bind (fun _ => rfl) (fun _ => rfl)
   rw [if_neg c4, if_neg c4]
   by_cases c5 : sEq p (bs [114, 101, 116, 114, 97, 99, 116, 47, 49]) = true
   ·rw [if_pos c5, if_pos c5]
    rcases Zxu hk S hS hm h b0 hp with ⟨r, r', a1, a2, a3⟩ | ⟨u, a1, a2, a3, a4⟩
    ·rw [a1, a2]; exact ⟨r, r', rfl, rfl, a3⟩
    ·rw [a1, a2, obs, obs]
     exact Zno hk S hS hm ⟨rfl, rfl, rfl⟩ a3 hpl (by show u.gd.length ≤ _; rw [a4]; exact hbl) false (fun h => by cases h)
   rw [if_neg c5, if_neg c5]; exact JT _
 unfold Z50
 rw [a0, an, obs, obs, obs, obs]
 by_cases c1 : sEq p (bs [61, 47, 50]) = true
 ·rw [if_pos c1, if_pos c1]; exact U y z b0 bn
 rw [if_neg c1, if_neg c1]
 by_cases c2 : sEq p (bs [92, 61, 47, 50]) = true
 ·rw [if_pos c2, if_pos c2]
  obtain ⟨V, hV, hV2, hV3⟩ := h.1.vars
  obtain ⟨u, b, e1, e2, ⟨e, e3, e4, e5⟩, e6, e7⟩ := uni hk hm h b0.mid bn.mid
  rw [e1 s rfl rfl, e1 (sS S s) rfl rfl, obs, obs]
  obtain ⟨U3, hU3⟩ : ∃ U3 : Gu, U3 = ⟨grow (wipe u.ge (u.gd.drop s.gU.gd.length)) V, u.gd.take s.gU.gd.length, u.gu⟩ := ⟨_, rfl⟩
  have ud : ∀ s' : Gs, Z1b k (mem s' u s.gk) (s.gU.gd.length : Int) s.gk = some (mem s' U3 s.gk) := fun s' => by
   rw [hV, Zuf hk1 (t := s.gU.gd.length) (v := V) (by omega) (mem s' u V) (by show u.ge.length ≤ _; omega) (by show _ ≤ u.gd.length; rw [e3]; simp) (by
    show ∀ n ∈ u.gd, 0 ≤ n ∧ n < (u.ge.length : Int)
    rw [e3, e6, h.1.ln]
    intro n hn
    rcases List.mem_append.1 hn with hn | hn
    ·exact h.1.bd n hn
    ·exact e4 n hn) (by show u.gd.length ≤ _; rw [e3, List.length_append]; have := h.2.1; omega), hU3]
   rfl
  have f3 : Full m 1 (mem s U3 s.gk) := by
   rw [hV]
   exact h.memo hV (by rw [hU3]; exact Z6f _ _) (by rw [hU3]; exact Zdk (Zin _ _ e7) _) (e := []) (by rw [hU3]; show u.gd.take _ = _; rw [e3, List.take_left' rfl, List.append_nil]) (fun n hn => by cases hn) (by simp)
  show TF m S s ((Z1b k (mem s u s.gk) (s.gU.gd.length : Int) s.gk).bind _) ((Z1b k (mem (sS S s) u s.gk) (s.gU.gd.length : Int) s.gk).bind _)
  rw [ud, ud, obs, obs]
  exact Zno hk S hS hm ⟨rfl, rfl, rfl⟩ f3.1 hpl (by have := f3.2.1; omega) (!b) (fun _ => f3)
 rw [if_neg c2, if_neg c2, show (sS S s).gU = s.gU from rfl]
 by_cases c3 : sEq p (bs [61, 61, 47, 50]) = true
 ·rw [if_pos c3, if_pos c3]
  have hl5 : s.gU.ge.length ≤ 1048576 := by have := h.1.ln; have := h.1.vl; omega
  rw [Zjw hk1 hl5 h.1.ls b0, Zjw hk1 hl5 h.1.ls bn, obs, obs, obs, obs]
  by_cases d1 : (fP s.gU.ge y).2 = true
  ·rw [if_pos d1, if_pos d1]
   by_cases d2 : (fP s.gU.ge z).2 = true
   ·rw [if_pos d2, if_pos d2]
    have g1 := Zly h.1.ls b0
    obtain ⟨b, e⟩ := Z11t k (fP s.gU.ge y).1 (fP s.gU.ge z).1 g1.1 (Zvj hk1 g1.mid.2)
    rw [e, obs, obs]; exact JT _
   ·rw [if_neg d2, if_neg d2]; exact JT _
  ·rw [if_neg d1, if_neg d1]; exact JT _
 rw [if_neg c3, if_neg c3]
 by_cases c4 : sEq p (bs [105, 115, 47, 50]) = true
 ·rw [if_pos c4, if_pos c4]
  obtain ⟨r, e1, r1, r2⟩ := Z10z hk h.1 bn
  rw [e1, obs, obs]
  by_cases d1 : (r.2 != 0) = true
  ·rw [if_pos d1, if_pos d1]; exact TE _
  ·rw [if_neg d1, if_neg d1]
   exact U y _ b0 (intT hk r1 r2)
 rw [if_neg c4, if_neg c4]
 by_cases c5 : sEq p (bs [60, 47, 50]) = true
 ·rw [if_pos c5, if_pos c5]; exact J2 _
 ·rw [if_neg c5, if_neg c5]; exact J2 _
theorem lenOf {x : Gt} {t : ByteArray} {n : Nat} (l : List UInt8) (h : sEq (Z3c x) t = true) (hn : n < 10) (ht : tl t = l ++ [47, UInt8.ofNat (48 + n)]) : x.ga.length = n := have _ := hk; (Zyp h hn ht).1
theorem Z11k (hS : SOk S) {m a : Nat} (hm : m ≤ 3000) {s : Gs} (h : Pre m a s) {x : Gt} (hx : GoT x) : TF m S s (Z16 k s x (a : Int)) (Z16 k (sS S s) x ((a : Int) + S.c)) := by
 have hk0 := kk1 (hk1 hk)
 have hE := Zxn hk S hS
 have hkk := Zs7 hx.1
 have hps := Zt8 hx.2.1 (by omega)
 have hp : (Z3c x).size ≤ 1000 := by omega
 have c5 : (bs [99, 97, 108, 108, 47, 49]).size ≤ 1000 := by decide
 have lS : ((sS S s).gc.length : Int) = (s.gc.length : Int) + S.c := Zff S s
 have hfull := h.full
 have ha := h.2.2.2.1
 have TE : ∀ (c : Int) {p : ByteArray}, p.size ≤ 1000 → TF m S s ((Z9 k s c p).bind fun r => some r) ((Z9 k (sS S s) c p).bind fun r => some r) := fun c p hp => (thrE hk S hS hm h c hp).bind (fun _ => rfl) (fun _ => rfl)
 have fg : FOk m s.gU.gd s.gc s.gU.gd.length s.gc.length (3 * m + 3) s.gh := h.2.2.2.2.other (Nat.le_refl _) rfl rfl (Nat.le_refl _) ha (by omega)
 unfold Z16
 rw [Zd6 hx.2.1 (by omega), obs, obs]
 by_cases k1 : (x.gi == 1) = true
 ·rw [if_pos k1, if_pos k1]; exact TE 1 c5
 rw [if_neg k1, if_neg k1]
 by_cases k3 : (x.gi == 3) = true
 ·rw [if_pos k3, if_pos k3]; exact TE 2 c5
 rw [if_neg k3, if_neg k3]
 by_cases q1 : sEq (Z3c x) (bs [116, 114, 117, 101, 47, 48]) = true
 ·rw [if_pos q1, if_pos q1]; exact .full rfl rfl (.refl s) hfull
 rw [if_neg q1, if_neg q1]
 by_cases q2 : sEq (Z3c x) (bs [102, 97, 105, 108, 47, 48]) = true
 ·rw [if_pos q2, if_pos q2]
  exact (Ztk hk S hS hm (fF S s.gh) h.1 (by have := h.2.2.1; omega) (by have := h.2.1; omega)).bind (fun _ => rfl) (fun _ => rfl)
 rw [if_neg q2, if_neg q2]
 by_cases q3 : sEq (Z3c x) (bs [33, 47, 48]) = true
 ·rw [if_pos q3, if_pos q3]
  have m1 : (if (a : Int) < (s.gc.length : Int) then (a : Int) else (s.gc.length : Int)) = (a : Int) := by split <;> omega
  have m2 : (if (a : Int) + S.c < ((sS S s).gc.length : Int) then (a : Int) + S.c else ((sS S s).gc.length : Int)) = ((a + S.E.length : Nat) : Int) := by rw [lS]; unfold Sim.c; split <;> omega
  rw [m1, m2, if_pos ⟨by omega, by omega⟩, if_pos ⟨by omega, by rw [lS]; unfold Sim.c; omega⟩, Int.toNat_natCast, Int.toNat_natCast]
  refine .full (r := setP s (s.gc.take a)) rfl ?_ ⟨rfl, rfl, rfl⟩ ⟨?_, hfull.2.1, ?_, ?_⟩
  ·show some (setP (sS S s) ((S.E ++ s.gc.map (sP S)).take (a + S.E.length))) = _
   rw [Zq8]; rfl
  ·obtain ⟨V, hV, hV2, hV3⟩ := h.1.vars
   have := h.1.back (t := s.gU.gd.length) (v := V) (n := a) (Nat.le_refl _) hV3 (fun x hx => by rw [← hV]; exact (h.1.bd x (List.mem_of_mem_take hx)).2) ha (fun p hp => h.1.trails p (List.mem_of_mem_take hp)) hV2 h.1.ls s.gU.gu
   rw [List.take_length, ← hV] at this
   exact this
  ·show (s.gc.take a).length ≤ _; rw [List.length_take]; have := h.2.2.1; omega
  ·show FOk m s.gU.gd (s.gc.take a) s.gU.gd.length (s.gc.take a).length _ s.gh
   exact h.2.2.2.2.other (Nat.le_refl _) rfl (by rw [List.take_take, Nat.min_self]) (Nat.le_refl _) (by rw [List.length_take]; omega) (by omega)
 rw [if_neg q3, if_neg q3]
 have two : x.ga.length = 2 → ∃ y z, at' x.ga 0 = some y ∧ at' x.ga 1 = some z ∧ BigT y ∧ BigT z := fun hl => by
  have p0 : 0 < x.ga.length := by omega
  have p1 : 1 < x.ga.length := by omega
  exact ⟨_, _, Z4c p0, Z4c p1, hx.2.2 _ (List.getElem_mem p0), hx.2.2 _ (List.getElem_mem p1)⟩
 have one : 1 ≤ x.ga.length → ∃ y, at' x.ga 0 = some y ∧ BigT y := fun hl => by
  have p0 : 0 < x.ga.length := by omega
  exact ⟨_, Z4c p0, hx.2.2 _ (List.getElem_mem p0)⟩
 by_cases q4 : sEq (Z3c x) (bs [44, 47, 50]) = true
 ·rw [if_pos q4, if_pos q4]
  obtain ⟨y, z, a0, a1, b0, b1⟩ := two (lenOf hk (n := 2) [44] q4 (by decide) rfl)
  rw [a0, a1]
  simp only [obs, Z10b]
  refine .full (r := Zbb (Zbb s z (a : Int)) y (a : Int)) rfl (by rw [Z9s, Z9s]) ⟨rfl, rfl, rfl⟩ ⟨(h.1.goals _).goals _, hfull.2.1, hfull.2.2.1, ?_⟩
  show FOk m s.gU.gd s.gc s.gU.gd.length s.gc.length (3 * m + 1 + 1 + 1 + 1) (.mk 1 y (a : Int) .nil (.mk 1 z (a : Int) .nil s.gh))
  exact .go (.inl rfl) b0.go ha (.go (.inl rfl) b1.go (Nat.le_refl _) (h.2.2.2.2.other (Nat.le_refl _) rfl rfl (Nat.le_refl _) (Nat.le_refl _) (by omega)))
 rw [if_neg q4, if_neg q4]
 by_cases q5 : sEq (Z3c x) (bs [59, 47, 50]) = true
 ·rw [if_pos q5, if_pos q5]
  obtain ⟨y, z, a0, a1, b0, b1⟩ := two (lenOf hk (n := 2) [59] q5 (by decide) rfl)
  rw [a0, a1]
  simp only [obs]
  exact (Zrd hk S hS hm h b0.go b1.go).bind (fun _ => rfl) (fun _ => rfl)
 rw [if_neg q5, if_neg q5]
 by_cases q6 : sEq (Z3c x) (bs [45, 62, 47, 50]) = true
 ·rw [if_pos q6, if_pos q6]
  exact (Zrd hk S hS hm h hx (Zw2 hk).go).bind (fun _ => rfl) (fun _ => rfl)
 rw [if_neg q6, if_neg q6]
 by_cases q7 : sEq (Z3c x) (bs [92, 43, 47, 49]) = true
 ·rw [if_pos q7, if_pos q7]
  obtain ⟨y, a0, b0⟩ := one (by have := lenOf hk (n := 1) [92, 43] q7 (by decide) rfl; omega)
  rw [a0, obs, obs]
  exact (Zrd hk S hS hm h (twoT hk (n := bs [45, 62]) (by decide) b0 (Zw2 hk)) (Zzw hk).go).bind (fun _ => rfl) (fun _ => rfl)
 rw [if_neg q7, if_neg q7]
 by_cases q8 : sEq (Z3c x) (bs [99, 97, 108, 108, 47, 49]) = true
 ·rw [if_pos q8, if_pos q8]
  obtain ⟨y, a0, b0⟩ := one (by have := lenOf hk (n := 1) [99, 97, 108, 108] q8 (by decide) rfl; omega)
  rw [a0, obs, obs]
  refine .full (r := Zbb s y (s.gc.length : Int)) rfl (by rw [Z9s, ← lS]; rfl) ⟨rfl, rfl, rfl⟩ ⟨h.1.goals _, hfull.2.1, hfull.2.2.1, ?_⟩
  show FOk m s.gU.gd s.gc s.gU.gd.length s.gc.length (3 * m + 3 + 1) (.mk 1 y (s.gc.length : Int) .nil s.gh)
  exact .go (.inl rfl) b0.go (Nat.le_refl _) fg
 rw [if_neg q8, if_neg q8]
 have J2 : ∀ b : Bool, TF m S s (Z37 k s (Z3c x) x b) (Z37 k (sS S s) (Z3c x) x b) := fun b => by
  unfold Z37
  cases b with
  | true => rw [if_pos rfl, if_pos rfl]; exact TE 2 hp
  | false =>
   rw [if_neg Bool.false_ne_true, if_neg Bool.false_ne_true, Zhl hk0, obs, obs]
   cases hc : has ctl (Z3c x) with
   | true =>
    rw [if_pos rfl, if_pos rfl]
    have f : ∀ {t : ByteArray}, ¬ sEq (Z3c x) t = true → sEq (Z3c x) t = false := fun h => by simpa using h
    exact (Z12u hk S hS hm h hx (Zyf hc (f q1) (f q2) (f q3)) hkk hp).bind (fun _ => rfl) (fun _ => rfl)
   | false =>
    rw [if_neg Bool.false_ne_true, if_neg Bool.false_ne_true]
    exact (Zwf hk S hS hm h hx hp).bind (fun _ => rfl) (fun _ => rfl)
 have J1 : ∀ b : Bool, (b = true → 1 ≤ x.ga.length ∧ x.ga.length ≤ 100) → TF m S s (Z41 k s x (Z3c x) (a : Int) b) (Z41 k (sS S s) x (Z3c x) ((a : Int) + S.c) b) := fun b hb => by
  unfold Z41
  cases b with
  | true => exact (Zwg hk S hS hm h hx (hb rfl).1 (hb rfl).2 hp).bind (fun _ => rfl) (fun _ => rfl)
  | false =>
   rw [if_neg Bool.false_ne_true, if_neg Bool.false_ne_true]
   by_cases r1 : sEq (Z3c x) (bs [99, 97, 116, 99, 104, 47, 51]) = true
   ·rw [if_pos r1, if_pos r1]
    have hl := lenOf hk (n := 3) [99, 97, 116, 99, 104] r1 (by decide) rfl
    have p0 : 0 < x.ga.length := by omega
    have p1 : 1 < x.ga.length := by omega
    have p2 : 2 < x.ga.length := by omega
    have a0 := Z4c p0
    have a1 := Z4c p1
    have a2 := Z4c p2
    rw [show ((0 : Nat) : Int) = 0 from rfl] at a0
    rw [show ((1 : Nat) : Int) = 1 from rfl] at a1
    rw [show ((2 : Nat) : Int) = 2 from rfl] at a2
    have b0 := hx.2.2 _ (List.getElem_mem p0)
    have b1 := hx.2.2 _ (List.getElem_mem p1)
    have b2 := hx.2.2 _ (List.getElem_mem p2)
    generalize x.ga[0] = y0 at a0 b0
    generalize x.ga[1] = y1 at a1 b1
    generalize x.ga[2] = y2 at a2 b2
    obtain ⟨pl, e2, e3, i1⟩ := Zz9 hk S hm hE h (f := .nil) (.inl rfl)
    rw [show sG S Gf.nil = .nil from rfl] at e3
    obtain ⟨V, hV, hV2, hV3⟩ := h.1.vars
    have lenP : (s.gc ++ [pl]).length = s.gc.length + 1 := by simp
    have l2 : ((sS S (setP s (s.gc ++ [pl]))).gc.length : Int) = (s.gc.length : Int) + 1 + S.c := by
     rw [Zff]
     show ((s.gc ++ [pl]).length : Int) + _ = _
     rw [lenP]; omega
    rw [e2, e3, a0, a1, a2]
    simp only [obs, Z10b]
    have fg1 : FOk m s.gU.gd (s.gc ++ [pl]) s.gU.gd.length a (3 * m + 1) s.gh := h.2.2.2.2.other (Nat.le_refl _) rfl (Zaw (n := s.gc.length) (by rw [List.take_left' rfl, List.take_length]) ha) (Nat.le_refl _) (Nat.le_refl _) (Nat.le_refl _)
    refine .full (r := Zbb (setG (setP s (s.gc ++ [pl])) (.mk 3 (Gt.mk 0 (bs []) 0 []) 0 (.mk (s.gc.length : Int) (s.gU.gd.length : Int) s.gk .nil y1 y2 (a : Int) s.gh) s.gh)) y0 ((s.gc.length + 1 : Nat) : Int)) ?_ ?_ ⟨rfl, rfl, rfl⟩ ⟨(i1.goals _).goals _, hfull.2.1, by show (s.gc ++ [pl]).length ≤ _; have := h.2.2.1; omega, ?_⟩
    ·rw [show (setP s (s.gc ++ [pl])).gc.length = s.gc.length + 1 from lenP]; rfl
    ·rw [Z9s, Zq9, fF, if_pos rfl, fC, l2, show ((s.gc.length + 1 : Nat) : Int) = (s.gc.length : Int) + 1 by omega]
     rfl
    ·rw [hV]
     show FOk m s.gU.gd (s.gc ++ [pl]) s.gU.gd.length (s.gc ++ [pl]).length (3 * m + 1 + 1 + 1 + 1) (.mk 1 y0 ((s.gc.length + 1 : Nat) : Int) .nil (.mk 3 (Gt.mk 0 (bs []) 0 []) 0 (.mk (s.gc.length : Int) (s.gU.gd.length : Int) (V : Int) .nil y1 y2 (a : Int) s.gh) s.gh))
     refine .go (.inl rfl) b0.go (by omega) (.dn (by omega) (Nat.le_refl _) h.2.1 (fun x hx => by rw [← hV]; exact (h.1.bd x (List.mem_of_mem_take hx)).2) hV3 (by rw [List.take_left' rfl]; exact h.1.trails) b1 b2 ha fg1 (fg1.other (Nat.le_refl _) rfl rfl (Nat.le_refl _) ha (by omega)))
   rw [if_neg r1, if_neg r1]
   by_cases r2 : sEq (Z3c x) (bs [116, 104, 114, 111, 119, 47, 49]) = true
   ·rw [if_pos r2, if_pos r2]
    obtain ⟨y, a0, b0⟩ := one (by have := lenOf hk (n := 1) [116, 104, 114, 111, 119] r2 (by decide) rfl; omega)
    rw [a0, obs, obs, Zcj hk h.1 b0 s rfl, Zcj hk h.1 b0 (sS S s) rfl, obs, obs]
    cases h2 : (fP s.gU.ge y).2 with
    | false => rw [if_neg Bool.false_ne_true, if_neg Bool.false_ne_true]; exact Zvy hk S h.1 rfl rfl
    | true =>
     rw [if_pos rfl, if_pos rfl]
     exact (Zyw hk S hS hm h (Z10y hk h.1.ls b0 h2).2).bind (fun _ => rfl) (fun _ => rfl)
   rw [if_neg r2, if_neg r2]
   by_cases r3 : sEq (Z3c x) (bs [58, 45, 47, 50]) = true
   ·rw [if_pos r3, if_pos r3]; exact J2 _
   rw [if_neg r3, if_neg r3]
   by_cases r4 : sEq (Z3c x) (bs [58, 45, 47, 49]) = true
   ·rw [if_pos r4, if_pos r4]; exact J2 _
   ·rw [if_neg r4, if_neg r4]; exact J2 _
 by_cases q9 : sEq (Z3c x) (bs [99, 97, 108, 108, 47, 50]) = true
 ·rw [if_pos q9, if_pos q9]
  exact J1 _ (fun h => by have := lenOf hk (n := 2) [99, 97, 108, 108] h (by decide) rfl; omega)
 ·rw [if_neg q9, if_neg q9]
  exact J1 _ (fun h => by have := lenOf hk (n := 3) [99, 97, 108, 108] h (by decide) rfl; omega)
end
def Zlc (s : Gs) (l : List Gt) : Gs := Gs.mk s.gDb s.gU s.gk s.gl s.gw s.gh s.gc (Gw.mk l s.gf.gz s.gf.gx s.gf.gf s.gf.gDb s.gf.gl) s.gv
def Z6b (s : Gs) (g : Gf) : Gs := Gs.mk s.gDb s.gU s.gk (s.gl + 1) s.gw g s.gc s.gf s.gv
def S0 (lim : Int) : Sim := ⟨.nil, [], .nil, lim, 0⟩
theorem Z105 (lim : Int) : SOk (S0 lim) := ⟨.inl rfl, fun k m t s => by rw [Z5, if_neg (show ¬ (!(S0 lim).B.isNil) = true from (by decide : ¬ (!true) = true))]⟩
structure Head (m D : Nat) (s : Gs) : Prop where
 inv : SInv m s
 nb : s.gU.gd.length ≤ 2001 * (m + 1)
 np : s.gc.length ≤ m + 1
 fo : FOk m s.gU.gd s.gc s.gU.gd.length s.gc.length D s.gh
 dd : D ≤ 3 * m + 4
 st : s.gl = (m : Int)
 an : s.gf.gp.length ≤ 7
theorem Full.head {m : Nat} {s : Gs} (h : Full m 1 s) (h1 : s.gl = (m : Int)) (h2 : s.gf.gp.length ≤ 7) : Head m (3 * m + 4) s := ⟨h.1, h.2.1, h.2.2.1, h.2.2.2, Nat.le_refl _, h1, h2⟩
section
variable {k : Nat} (hk : maxLen + 1100000 < k) (S : Sim)
include hk
theorem Zx1 {m : Nat} {s : Gs} (h : SInv m s) {x : Gt} (hx : BigT x) (s' : Gs) (hs : s'.gU = s.gU) (ha : s'.gf.gp.length ≤ 7) :
  Z3q k s' x = (if (fP s.gU.ge x).2 = true then (if s'.gf.gp.length = 7 then some (Z8i (Zlc s' (s'.gf.gp ++ [(fP s.gU.ge x).1])) 3) else Z17 k (Zlc s' (s'.gf.gp ++ [(fP s.gU.ge x).1]))) else some (Z8i s' 1)) := by
 unfold Z3q
 rw [Zcj hk h hx s' hs, obs]
 cases h2 : (fP s.gU.ge x).2 with
 | false => rw [if_neg Bool.false_ne_true, if_neg Bool.false_ne_true, if_pos (by rfl)]
 | true =>
  rw [if_pos rfl, if_pos rfl, if_neg (by simp)]
  show (if s'.gf.gp.length + 1 ≤ 1073741824 then _ else _) = _
  rw [if_pos (by omega)]
  show ((at' (s'.gf.gp ++ [Gt.mk 0 (bs []) 0 []]) (s'.gf.gp.length : Int)).bind _) = _
  rw [Z4c (show s'.gf.gp.length < (s'.gf.gp ++ [Gt.mk 0 (bs []) 0 []]).length by simp), obs]
  have e : (s'.gf.gp ++ [Gt.mk 0 (bs []) 0 []]).set (((s'.gf.gp.length : Int)).toNat) (fP s.gU.ge x).1 = s'.gf.gp ++ [(fP s.gU.ge x).1] := by simp
  simp only [e]
  have l : (s'.gf.gp ++ [(fP s.gU.ge x).1]).length = s'.gf.gp.length + 1 := by simp
  rw [l]
  by_cases h7 : s'.gf.gp.length = 7
  ·rw [if_pos (by simp; omega), if_pos h7]; rfl
  ·rw [if_neg (by simp; omega), if_neg h7]
   show (Z17 k (Zlc s' _)).bind _ = _
   cases Z17 k (Zlc s' (s'.gf.gp ++ [(fP s.gU.ge x).1])) <;> rfl
theorem Zlb {m : Nat} {s : Gs} (h : SInv m s) {l : List Gt} (hl : l.length ≤ 8) (ha : ∀ z ∈ l, BigT z) : SInv m (Zlc s l) := have _ := hk; ⟨h.db, h.ls, h.ln, h.vl, h.bd, h.pk, ⟨ha, hl, h.ot.2.2.1, h.ot.2.2.2⟩, h.ov⟩
theorem Zla {n : Nat} {x : Gt} {s : Gs} (h : s.gv = true) : Z1 k x (n + 1) s = some (.done s) := by
 have _ := hk
 rw [Z1, h, if_neg (by decide)]
theorem Zit {n : Nat} {x : Gt} {s : Gs} (h : s.gv = false) (hg : s.gh = .nil) : Z1 k x (n + 1) s = (Z3q k s x).bind fun r => Z1 k x n r := by
 have _ := hk
 rw [Z1, h, if_pos (by rfl), hg, if_pos (by rfl)]
theorem Zfd {n : Nat} {x : Gt} {s : Gs} (h : s.gv = false) {g : Gt} {a : Nat} {c : Ga} {nx : Gf} (hg : s.gh = .mk 2 g (a : Int) c nx) (ha : a ≤ s.gc.length) : Z1 k x (n + 1) s = Z1 k x n (setG (setP s (s.gc.take a)) nx) := by
 have _ := hk
 have m1 : (if (a : Int) < (s.gc.length : Int) then (a : Int) else (s.gc.length : Int)) = (a : Int) := by split <;> omega
 rw [Z1, h, if_pos (by rfl), hg, if_neg (show ¬ (Gf.mk 2 g (a : Int) c nx).isNil = true from Bool.false_ne_true), if_pos (by rfl), if_pos (by rfl), if_pos (by rfl)]
 simp only [show (Gf.mk 2 g (a : Int) c nx).gK = (a : Int) from rfl, m1]
 rw [if_pos ⟨by omega, by omega⟩, if_pos (by rfl), Int.toNat_natCast, ← h]
 rfl
theorem Zmk {n : Nat} {x : Gt} {s : Gs} (h : s.gv = false) {g : Gt} {a : Int} {c : Ga} {nx : Gf} (hg : s.gh = .mk 3 g a c nx) : Z1 k x (n + 1) s = Z1 k x n (setG s nx) := by
 have _ := hk
 rw [Z1, h, if_pos (by rfl), hg, if_neg (show ¬ (Gf.mk 3 g a c nx).isNil = true from Bool.false_ne_true), if_pos (by rfl), if_neg (show ¬ ((Gf.mk 3 g a c nx).gi == 2) = true from (by decide : ¬ ((3 : Int) == 2) = true)), if_pos (by rfl), if_pos (by rfl), if_pos (by rfl), ← h]
 rfl
theorem Zb9 {n : Nat} {x : Gt} {s : Gs} (h : s.gv = false) {g : Gt} {a : Int} {c : Ga} {nx : Gf} (hg : s.gh = .mk 1 g a c nx) (hl : s.gl = s.gw) : Z1 k x (n + 1) s = Z1 k x n (Z8i s 1) := by
 have _ := hk
 rw [Z1, h, if_pos (by rfl), hg, if_neg (show ¬ (Gf.mk 1 g a c nx).isNil = true from Bool.false_ne_true), if_pos (by rfl), if_neg (show ¬ ((Gf.mk 1 g a c nx).gi == 2) = true from (by decide : ¬ ((1 : Int) == 2) = true)), if_pos (by rfl), if_neg (show ¬ ((Gf.mk 1 g a c nx).gi == 3) = true from (by decide : ¬ ((1 : Int) == 3) = true)), if_pos (by rw [hl]; simp), Zui, obs]
theorem Z7z {n : Nat} {x : Gt} {s : Gs} (h : s.gv = false) {g : Gt} {a : Int} {c : Ga} {nx : Gf} (hg : s.gh = .mk 1 g a c nx) (hl : s.gl ≠ s.gw) (h0 : 0 ≤ s.gl ∧ s.gl ≤ 100000) (hu : s.gU.ge.length ≤ 1048576) : Z1 k x (n + 1) s = (Z16 k (Z6b s nx) (wk 5000 s.gU.ge g) a).bind fun r => Z1 k x n r := by
 rw [Z1, h, if_pos (by rfl), hg, if_neg (show ¬ (Gf.mk 1 g a c nx).isNil = true from Bool.false_ne_true), if_pos (by rfl), if_neg (show ¬ ((Gf.mk 1 g a c nx).gi == 2) = true from (by decide : ¬ ((1 : Int) == 2) = true)), if_pos (by rfl), if_neg (show ¬ ((Gf.mk 1 g a c nx).gi == 3) = true from (by decide : ¬ ((1 : Int) == 3) = true)), if_neg (by simpa using hl), if_pos (by rfl), if_pos (by rfl)]
 show ((Z1y k s.gU.ge (Gt.mk g.gi g.gn g.gj g.ga)).bind _) = _
 rw [eta, (Zq0 (kk1 (hk1 hk)) hu g).2, obs, if_pos (by rfl), Z4w (by omega) (by omega), ← h]
 rfl
end
theorem SInv.cut {m : Nat} {s : Gs} (h : SInv m s) {a : Nat} (ha : a ≤ s.gc.length) : SInv m (setP s (s.gc.take a)) := by
 obtain ⟨V, hV, hV2, hV3⟩ := h.vars
 have := h.back (t := s.gU.gd.length) (v := V) (n := a) (Nat.le_refl _) hV3 (fun x hx => by rw [← hV]; exact (h.bd x (List.mem_of_mem_take hx)).2) ha (fun p hp => h.trails p (List.mem_of_mem_take hp)) hV2 h.ls s.gU.gu
 rw [List.take_length, ← hV] at this
 exact this
theorem Head.cut {m D : Nat} {s : Gs} (h : Head m D s) {g : Gt} {a : Nat} {nx : Gf} (ha : a ≤ s.gc.length) {D' : Nat} (hD : D' ≤ D) (hf : FOk m s.gU.gd s.gc s.gU.gd.length a D' nx) : Head m D' (setG (setP s (s.gc.take a)) nx) where
 inv := (h.inv.cut ha).goals _
 nb := h.nb
 np := by show (s.gc.take a).length ≤ _; rw [List.length_take]; have := h.np; omega
 fo := by
  show FOk m s.gU.gd (s.gc.take a) s.gU.gd.length (s.gc.take a).length D' nx
  exact hf.other (Nat.le_refl _) rfl (by rw [List.take_take, Nat.min_self]) (Nat.le_refl _) (by rw [List.length_take]; omega) (Nat.le_refl _)
 dd := by have := h.dd; omega
 st := h.st
 an := h.an
theorem Head.pop {m D : Nat} {s : Gs} (h : Head m D s) {nx : Gf} {D' : Nat} (hD : D' ≤ D) (hf : FOk m s.gU.gd s.gc s.gU.gd.length s.gc.length D' nx) : Head m D' (setG s nx) := ⟨h.inv.goals _, h.nb, h.np, hf, by have := h.dd; omega, h.st, h.an⟩
theorem Head.pre {m D : Nat} {s : Gs} (h : Head m D s) {a : Nat} {nx : Gf} (ha : a ≤ s.gc.length) {D' : Nat} (hD : D' ≤ D) (hf : FOk m s.gU.gd s.gc s.gU.gd.length a D' nx) : Pre (m + 1) a (Z6b s nx) := by
 have i := (h.inv.goals nx).up (Nat.le_succ m)
 exact ⟨⟨i.db, i.ls, i.ln, i.vl, i.bd, i.pk, i.ot, i.ov⟩, h.nb, h.np, ha, hf.other (Nat.le_succ _) rfl rfl (Nat.le_refl _) (Nat.le_refl _) (by have := h.dd; omega)⟩
section
variable {k : Nat} (hk : maxLen + 1100000 < k) (S : Sim)
include hk
theorem Z5k {n : Nat} {x : Gt} {s r : Gs} (h : s.gv = true) (e : Z1 k x n s = some (.done r)) : r = s := by
 cases n with
 | zero => rw [Z1] at e; cases e
 | succ n => rw [Zla hk h] at e; cases e; rfl
theorem Zvt {m D : Nat} {s : Gs} (h : Head m D s) : s.gU.ge.length ≤ 1048576 := by have _ := hk; have := h.inv.ln; have := h.inv.vl; omega
def Runs (k : Nat) (x : Gt) (L n M : Nat) (a : Nat) (s : Gs) : Prop := (M ≤ n → ∃ r, Z1 k x n s = some (.done r)) ∧ ∀ r, Z1 k x n s = some (.done r) → Fini r ∧ r.gl ≤ (L : Int) ∧ a ≤ r.gf.gp.length
theorem Runs.le {k : Nat} {x : Gt} {L n M M' a a' : Nat} {s : Gs} (h : Runs k x L n M' a' s) (hM : M ≤ n → M' ≤ n) (ha : a ≤ a') : Runs k x L n M a s := have _ := hk; ⟨fun h1 => h.1 (hM h1), fun r hr => by obtain ⟨h1, h2, h3⟩ := h.2 r hr; exact ⟨h1, h2, by omega⟩⟩
theorem Zdw {x : Gt} (hx : BigT x) {L N : Nat} (hL : L ≤ 2000) (hN : N = 7000) : ∀ (n m D : Nat) (s : Gs), Head m D s → s.gw = (L : Int) → m ≤ L → Runs k x L n (((L - m) + (8 - s.gf.gp.length)) * N + D + 1) s.gf.gp.length s
 | 0, m, D, s, h, h1, h2 => ⟨fun h3 => absurd h3 (Nat.not_succ_le_zero _), fun r hr => by rw [Z1] at hr; cases hr⟩
 | n + 1, m, D, s, h, h1, h2 => by
  have ho := h.inv.ov
  have hdd := h.dd
  have han := h.an
  have hst := h.st
  obtain ⟨w, hw⟩ : ∃ w, (L - m) + (8 - s.gf.gp.length) = w + 1 := ⟨(L - m) + (8 - s.gf.gp.length) - 1, by omega⟩
  rw [hw, Nat.succ_mul]
  generalize hP : w * N = P
  have next : ∀ (s2 : Gs) (M' a' : Nat), Z1 k x (n + 1) s = Z1 k x n s2 → Runs k x L n M' a' s2 → (P + N + D + 1 ≤ n + 1 → M' ≤ n) → s.gf.gp.length ≤ a' → Runs k x L (n + 1) (P + N + D + 1) s.gf.gp.length s := fun s2 M' a' e hr hM ha => by
   refine ⟨fun h3 => ?_, fun r hr2 => ?_⟩
   ·rw [e]; exact hr.1 (hM h3)
   ·rw [e] at hr2
    obtain ⟨q1, q2, q3⟩ := hr.2 r hr2
    exact ⟨q1, q2, by omega⟩
  have fin : ∀ s2 : Gs, Z1 k x (n + 1) s = Z1 k x n s2 → Fini s2 → s2.gl ≤ (L : Int) → s.gf.gp.length ≤ s2.gf.gp.length → Runs k x L (n + 1) (P + N + D + 1) s.gf.gp.length s := fun s2 e hf hs ha => by
   refine next s2 1 s2.gf.gp.length e ⟨fun h1 => ?_, fun r hr => ?_⟩ (by omega) ha
   ·obtain ⟨q, rfl⟩ : ∃ q, n = q + 1 := ⟨n - 1, by omega⟩
    exact ⟨s2, Zla hk hf.1⟩
   ·rw [Z5k hk hf.1 hr]; exact ⟨hf, hs, Nat.le_refl _⟩
  have hfo := h.fo
  cases hg : s.gh with
  | nil =>
   have e := Zit hk (n := n) (x := x) ho hg
   rw [Zx1 hk h.inv hx s rfl han] at e
   by_cases c : (fP s.gU.ge x).2 = true
   ·rw [if_pos c] at e
    have hT : ∀ z ∈ s.gf.gp ++ [(fP s.gU.ge x).1], BigT z := fun z hz => by
     rcases List.mem_append.1 hz with hz | hz
     ·exact h.inv.ot.1 z hz
     ·rw [List.mem_singleton.1 hz]; exact Zly h.inv.ls hx
    have i2 := Zlb hk h.inv (l := s.gf.gp ++ [(fP s.gU.ge x).1]) (by simp; omega) hT
    by_cases c7 : s.gf.gp.length = 7
    ·rw [if_pos c7, obs] at e
     exact fin _ e (i2.stop 3) (by show s.gl ≤ _; omega) (by show _ ≤ (s.gf.gp ++ _).length; simp)
    ·rw [if_neg c7] at e
     obtain ⟨r, r', e1, _, hs, hr⟩ := Ztk hk (S0 L) (Z105 _) (m := m) (by omega) .nil i2 h.np (by show s.gU.gd.length ≤ _; have := h.nb; omega)
     rw [e1, obs] at e
     have ha2 : r.gf.gp.length = s.gf.gp.length + 1 := by rw [hs.2.2]; show (s.gf.gp ++ _).length = _; simp
     have hs1 : r.gl = (m : Int) := hs.1.trans hst
     rcases hr with ⟨_, hr | hr⟩ | hr
     ·refine next r _ _ e (Zdw hx hL hN n m (3 * m + 4) r (hr.head hs1 (by omega)) (hs.2.1.trans h1) h2) ?_ (by omega)
      rw [show (L - m) + (8 - r.gf.gp.length) = w by omega, hP]
      omega
     ·exact fin r e hr.1 (by omega) (by omega)
     ·exact fin r e hr.1 (by omega) (by omega)
   ·rw [if_neg c, obs] at e
    exact fin _ e (h.inv.stop 1) (by show s.gl ≤ _; omega) (Nat.le_refl _)
  | mk kk g mm c nx =>
   rw [hg] at hfo
   cases hfo with
   | @go _ _ D' _ _ a _ k12 hgo ha hn =>
    rcases k12 with rfl | rfl
    ·by_cases hlim : m = L
     ·exact fin _ (Zb9 hk ho hg (by rw [hst, h1, hlim])) (h.inv.stop 1) (by show s.gl ≤ _; omega) (Nat.le_refl _)
     ·have e := Z7z hk (n := n) (x := x) ho hg (by rw [hst, h1]; omega) ⟨by omega, by omega⟩ (Zvt hk h)
      have hp := h.pre ha (Nat.le_succ _) hn
      obtain ⟨r, r', e1, _, hs, hr⟩ := Z11k hk (S0 L) (Z105 _) (m := m + 1) (by omega) hp (wkT hk h.inv (fun _ h => BigT.go h) hgo).2
      rw [e1, obs] at e
      have ha2 : r.gf.gp = s.gf.gp := hs.2.2
      have hs1 : r.gl = ((m + 1 : Nat) : Int) := by rw [hs.1]; show s.gl + 1 = _; omega
      rcases hr with ⟨_, hr | hr⟩ | hr
      ·refine next r _ _ e (Zdw hx hL hN n (m + 1) (3 * (m + 1) + 4) r (hr.head hs1 (by rw [ha2]; exact han)) (hs.2.1.trans h1) (by omega)) ?_ (by rw [ha2]; exact Nat.le_refl _)
       rw [ha2, show (L - (m + 1)) + (8 - s.gf.gp.length) = w by omega, hP]
       omega
      ·exact fin r e hr.1 (by omega) (by rw [ha2]; exact Nat.le_refl _)
      ·exact fin r e hr.1 (by omega) (by rw [ha2]; exact Nat.le_refl _)
    ·refine next _ _ _ (Zfd hk ho hg ha) (Zdw hx hL hN n m D' _ (h.cut (g := g) ha (Nat.le_succ _) hn) h1 h2) ?_ (Nat.le_refl _)
     show _ → ((L - m) + (8 - s.gf.gp.length)) * N + D' + 1 ≤ n
     rw [hw, Nat.succ_mul, hP]
     omega
   | @dn _ _ D' _ a u v gg bl th a2 bh _ ha hu hum hv hv3 hlo hbl hth ha2 hbh hn =>
    refine next _ _ _ (Zmk hk ho hg) (Zdw hx hL hN n m D' _ (h.pop (Nat.le_succ _) (hn.other (Nat.le_refl _) rfl rfl hu ha (Nat.le_refl _))) h1 h2) ?_ (Nat.le_refl _)
    show _ → ((L - m) + (8 - s.gf.gp.length)) * N + D' + 1 ≤ n
    rw [hw, Nat.succ_mul, hP]
    omega
theorem Z11o (hS : SOk S) {n : Nat} {x : Gt} {m D : Nat} {s : Gs} (h : Head m D s) (hm : m ≤ 2999) {g : Gt} {a : Nat} {nx : Gf} (hg : s.gh = .mk 1 g (a : Int) .nil nx) (hgo : GoT g) (ha : a ≤ s.gc.length) {D' : Nat} (hD : D' ≤ D) (hn : FOk m s.gU.gd s.gc s.gU.gd.length a D' nx) (hl : s.gl + S.ds ≠ S.lim) (hds : 0 ≤ S.ds ∧ S.ds ≤ 10000) :
  ∃ r r', Z16 k (Z6b s nx) (wk 5000 s.gU.ge g) (a : Int) = some r ∧ Z1 k x (n + 1) (sS S s) = Z1 k x n r' ∧ Rel (m + 1) S (Z6b s nx) r r' := by
 have hp := h.pre ha hD hn
 have hst := h.st
 obtain ⟨r, r', e1, e2, hr⟩ := Z11k hk S hS (m := m + 1) (by omega) hp (wkT hk h.inv (fun _ h => BigT.go h) hgo).2
 refine ⟨r, r', e1, ?_, hr⟩
 have hg2 : (sS S s).gh = .mk 1 g ((a : Int) + S.c) .nil (fF S nx) := by
  show fF S s.gh = _
  rw [hg, fF, if_neg (by decide), fC]
 rw [Z7z hk (s := sS S s) h.inv.ov hg2 hl (show 0 ≤ s.gl + S.ds ∧ s.gl + S.ds ≤ 100000 by omega) (show s.gU.ge.length ≤ 1048576 from Zvt hk h)]
 have z : Z6b (sS S s) (fF S nx) = sS S (Z6b s nx) := by
  show Gs.mk _ _ _ (s.gl + S.ds + 1) _ _ _ _ _ = Gs.mk _ _ _ (s.gl + 1 + S.ds) _ _ _ _ _
  rw [show s.gl + S.ds + 1 = s.gl + 1 + S.ds by omega]
  rfl
 rw [z]
 show ((Z16 k (sS S (Z6b s nx)) (wk 5000 s.gU.ge g) _).bind _) = _
 rw [e2, obs]
theorem cut2 (hS : SOk S) {n : Nat} {x : Gt} {m D : Nat} {s : Gs} (h : Head m D s) {g : Gt} {a : Nat} {nx : Gf} (hg : s.gh = .mk 2 g (a : Int) .nil nx) (ha : a ≤ s.gc.length) : Z1 k x (n + 1) (sS S s) = Z1 k x n (sS S (setG (setP s (s.gc.take a)) nx)) := by
 have hg2 : (sS S s).gh = .mk 2 g ((a + S.E.length : Nat) : Int) .nil (fF S nx) := by
  show fF S s.gh = _
  rw [hg, fF, if_neg (by decide), fC]
  unfold Sim.c
  rw [show (a : Int) + (S.E.length : Int) = ((a + S.E.length : Nat) : Int) by omega]
 rw [Zfd hk (s := sS S s) h.inv.ov hg2 (by have := Zff S s; unfold Sim.c at this; omega)]
 congr 1
 show setG (setP (sS S s) ((S.E ++ s.gc.map (sP S)).take (a + S.E.length))) (fF S nx) = _
 rw [Zq8]
 rfl
theorem dn2 {n : Nat} {x : Gt} {m D : Nat} {s : Gs} (h : Head m D s) {g : Gt} {c : Ga} {nx : Gf} (hg : s.gh = .mk 3 g 0 c nx) : Z1 k x (n + 1) (sS S s) = Z1 k x n (sS S (setG s nx)) := by
 have hg2 : (sS S s).gh = .mk 3 g 0 (fC S c) (fF S nx) := by
  show fF S s.gh = _
  rw [hg, fF, if_pos rfl]
 rw [Zmk hk (s := sS S s) h.inv.ov hg2]
 rfl
def FA : Gt := .mk 2 (bs [102, 97, 105, 108]) 0 []
theorem Z133 (n : Nat) (l : List Gt) (b : ByteArray) (c : Int) (q : List Gt) (a : Int) (h : a ≠ 1) : wk n l (.mk a b c q) = .mk a b c q := have _ := hk; Zl8 h
theorem Z123 (b : ByteArray) (c : Int) : Z3c (.mk 2 b c []) = (b ++ bs [47]) ++ decB 0 := by
 have _ := hk
 unfold Z3c
 rw [if_pos (.inl rfl)]
 rfl
theorem Zyx (s : Gs) (a : Int) : Z16 k s FA a = (Z17 k s).bind fun r => some r := by
 have e : Z3c FA = bs [102, 97, 105, 108, 47, 48] := by
  unfold FA
  rw [Z123 hk, Z89 (by decide)]
  decide +kernel
 unfold Z16
 rw [Zd6 (k := k) (x := FA) (Zw2 hk).2.2 (by decide : FA.ga.length ≤ 999999), obs, e, if_neg (by decide), if_neg (by decide), if_neg (by decide +kernel), if_pos (Z6u _)]
theorem Zil {x : Gt} (hS : SOk S) (hE : S.E = []) (hB : S.B = .mk 1 FA 0 .nil .nil) {lim d : Nat} (hl : S.lim = (lim : Int)) (hlim : lim ≤ 2000) (hd : S.ds = (d : Int)) (hd2 : d ≤ 1000) : ∀ (n m D : Nat) (s r : Gs), Head m D s → m + d ≤ lim → Z1 k x n (sS S s) = some (.done r) → r.gf.gz = 0 → r.gf.gp = []
 | 0, m, D, s, r, h, h1, h2, h3 => by rw [Z1] at h2; cases h2
 | n + 1, m, D, s, r, h, h1, h2, h3 => by
  have ho := h.inv.ov
  have hst := h.st
  have hfo := h.fo
  have stop1 : ∀ s2 : Gs, Z1 k x n (Z8i s2 1) = some (.done r) → False := fun s2 e => by
   have := Z5k hk (by rfl) e
   rw [this] at h3
   have h3 : (1 : Int) = 0 := h3
   omega
  have after : ∀ (m' : Nat) (s2 q q' : Gs), Zbx s2 q → s2.gl = (m' : Int) → s2.gf.gp.length ≤ 7 → m' + d ≤ lim → Rel m' S s2 q q' → Z1 k x n q' = some (.done r) → r.gf.gp = [] := fun m' s2 q q' hsm hs hn hm hr e => by
   rcases hr.2 with ⟨rfl, hf | ⟨hf, he⟩⟩ | ⟨hf, he, hx⟩
   ·exact Zil hS hE hB hl hlim hd hd2 n m' (3 * m' + 4) q r (hf.head (hsm.1.trans hs) (by rw [hsm.2.2]; exact hn)) hm e h3
   ·have := Z5k hk (s := sS S q) hf.1 e
    rw [this] at h3
    have h3 : q.gf.gz = 0 := h3
    omega
   ·rcases hx with ⟨_, x2, x3⟩ | ⟨x1, _⟩
    ·rw [Z5k hk x2 e]; exact x3
    ·exact absurd hE x1
  cases hg : s.gh with
  | nil =>
   have hg2 : (sS S s).gh = .mk 1 FA 0 .nil .nil := by show fF S s.gh = _; rw [hg, fF, hB]
   by_cases hlm : (sS S s).gl = (sS S s).gw
   ·rw [Zb9 hk (s := sS S s) ho hg2 hlm] at h2
    exact (stop1 _ h2).elim
   ·rw [Z7z hk (s := sS S s) ho hg2 hlm (show 0 ≤ s.gl + S.ds ∧ s.gl + S.ds ≤ 100000 by omega) (show s.gU.ge.length ≤ 1048576 from Zvt hk h), show wk 5000 (sS S s).gU.ge FA = FA from Zl8 (by decide), Zyx hk] at h2
    have hlm : s.gl + S.ds ≠ S.lim := hlm
    have z : Z6b (sS S s) .nil = setG (sS S (Z6b s .nil)) .nil := by
     show Gs.mk _ _ _ (s.gl + S.ds + 1) _ _ _ _ _ = Gs.mk _ _ _ (s.gl + 1 + S.ds) _ _ _ _ _
     rw [show s.gl + S.ds + 1 = s.gl + 1 + S.ds by omega]
     rfl
    have i := (h.inv.goals .nil).up (Nat.le_succ m)
    obtain ⟨q, q', e1, e2, hr⟩ := Ztk hk S hS (m := m + 1) (by omega) .nil (s := Z6b s .nil) ⟨i.db, i.ls, i.ln, i.vl, i.bd, i.pk, i.ot, i.ov⟩ (by show s.gc.length ≤ _; have := h.np; omega) (by show s.gU.gd.length ≤ _; have := h.nb; omega)
    rw [z, e2, obs, obs] at h2
    exact after (m + 1) (Z6b s .nil) q q' hr.1 (by show s.gl + 1 = _; omega) h.an (by omega) hr h2
  | mk kk g mm c nx =>
   rw [hg] at hfo
   cases hfo with
   | @go _ _ D' _ _ a _ k12 hgo ha hn =>
    rcases k12 with rfl | rfl
    ·by_cases hlm : s.gl + S.ds = S.lim
     ·have hg2 : (sS S s).gh = .mk 1 g ((a : Int) + S.c) .nil (fF S nx) := by
       show fF S s.gh = _
       rw [hg, fF, if_neg (by decide), fC]
      rw [Zb9 hk (s := sS S s) ho hg2 hlm] at h2
      exact (stop1 _ h2).elim
     ·obtain ⟨q, q', e1, e2, hr⟩ := Z11o hk S hS (n := n) (x := x) h (by omega) hg hgo ha (Nat.le_succ _) hn hlm (by omega)
      rw [e2] at h2
      exact after (m + 1) (Z6b s nx) q q' hr.1 (by show s.gl + 1 = _; omega) h.an (by omega) hr h2
    ·rw [cut2 hk S hS h hg ha] at h2
     exact Zil hS hE hB hl hlim hd hd2 n m D' _ r (h.cut (g := g) ha (Nat.le_succ _) hn) h1 h2 h3
   | @dn _ _ D' _ a u v gg bl th a2 bh _ ha hu hum hv hv3 hlo hbl hth ha2 hbh hn =>
    rw [dn2 hk S h hg] at h2
    exact Zil hS hE hB hl hlim hd hd2 n m D' _ r (h.pop (Nat.le_succ _) (hn.other (Nat.le_refl _) rfl rfl hu ha (Nat.le_refl _))) h1 h2 h3
end
section
variable {k : Nat} (hk : maxLen + 1100000 < k) (S : Sim)
include hk
def TA : Gt := .mk 2 (bs [116, 114, 117, 101]) 0 []
theorem Z11j (s : Gs) (a : Int) : Z16 k s TA a = some s := by
 have e : Z3c TA = bs [116, 114, 117, 101, 47, 48] := by
  unfold TA
  rw [Z123 hk, Z89 (by decide)]
  decide +kernel
 unfold Z16
 rw [Zd6 (k := k) (x := TA) (Zzw hk).2.2 (by decide : TA.ga.length ≤ 999999), obs, e, if_neg (by decide), if_neg (by decide), if_pos (Z6u _)]
theorem Zsi {s : Gs} (ho : s.gv = false) (hp : s.gc = []) : Z17 k s = some (Z8i s 0) := by
 unfold Z17
 obtain ⟨q, rfl⟩ : ∃ q, k = q + 1 := ⟨k - 1, by omega⟩
 rw [Z13, ho, if_pos (by rfl), hp, if_pos (by rfl), Zui, obs]
 rfl
theorem Z125 {l : List Gt} (h1 : l.length ≤ 1048576) (ha : AllB l) {x : Gt} (hx : BigT x) {s : Gs} (hs : s.gU.ge = l) : Z1h k s x = some (if (fP l x).2 = true then (s, (fP l x).1, true) else (Z8i s 1, (fP l x).1, false)) := by
 unfold Z1h
 rw [hs, Zjw (hk1 hk) h1 ha hx, obs]
 cases h2 : (fP l x).2 with
 | true => rw [if_neg (by decide), if_pos rfl]
 | false => rw [if_pos (by rfl), if_neg (by decide)]; rfl
theorem Z10o {n : Nat} {x : Gt} (hx : BigT x) {s r : Gs} (ho : s.gv = false) (hg : s.gh = .mk 1 TA 0 .nil .nil) (hp : s.gc = []) (ha : s.gf.gp = []) (hl : s.gU.ge.length ≤ 3000) (hb : AllB s.gU.ge) (h0 : 0 ≤ s.gl ∧ s.gl ≤ 100000)
  (e : Z1 k x n s = some (.done r)) (h3 : r.gf.gz = 0) : 0 < r.gf.gp.length := by
 have no1 : ∀ (q : Nat) (s2 : Gs), Z1 k x q (Z8i s2 1) = some (.done r) → False := fun q s2 e => by
  have := Z5k hk (by rfl) e
  rw [this] at h3
  have h3 : (1 : Int) = 0 := h3
  omega
 cases n with
 | zero => rw [Z1] at e; cases e
 | succ n =>
  by_cases hlm : s.gl = s.gw
  ·rw [Zb9 hk ho hg hlm] at e
   exact (no1 _ _ e).elim
  rw [Z7z hk ho hg hlm h0 (by omega), show wk 5000 s.gU.ge TA = TA from Zl8 (by decide), Z11j hk, obs] at e
  cases n with
  | zero => rw [Z1] at e; cases e
  | succ n =>
   rw [Zit hk (s := Z6b s .nil) ho rfl] at e
   unfold Z3q at e
   rw [Z125 hk (by omega) hb hx (s := Z6b s .nil) rfl, obs] at e
   cases h2 : (fP s.gU.ge x).2 with
   | false =>
    rw [h2, if_neg Bool.false_ne_true, if_pos (by rfl), obs] at e
    exact (no1 _ _ e).elim
   | true =>
    rw [h2, if_pos rfl, if_neg (by simp)] at e
    have z : (Z6b s .nil).gf.gp = [] := ha
    simp only [z] at e
    rw [if_pos (by decide), show at' (([] : List Gt) ++ [Gt.mk 0 (bs []) 0 []]) ((([] : List Gt).length : Nat) : Int) = some (Gt.mk 0 (bs []) 0 []) from rfl, obs, if_neg (by simp)] at e
    rw [show Z17 k (Gs.mk (Z6b s .nil).gDb (Z6b s .nil).gU (Z6b s .nil).gk (Z6b s .nil).gl (Z6b s .nil).gw (Z6b s .nil).gh (Z6b s .nil).gc (Gw.mk ((([] : List Gt) ++ [Gt.mk 0 (bs []) 0 []]).set (((([] : List Gt).length : Nat) : Int)).toNat (fP s.gU.ge x).1) (Z6b s .nil).gf.gz (Z6b s .nil).gf.gx (Z6b s .nil).gf.gf (Z6b s .nil).gf.gDb (Z6b s .nil).gf.gl) (Z6b s .nil).gv) = some (Z8i (Zlc (Z6b s .nil) [(fP s.gU.ge x).1]) 0) from Zsi hk ho hp, obs, obs] at e
    rw [Z5k hk (by rfl) e]
    show 0 < [(fP s.gU.ge x).1].length
    exact Nat.one_pos
theorem Zs4 {x x' : Gt} (hx : BigT x) (hx' : BigT x') (hS : SOk S) (hE : S.E ≠ []) (hB : S.B = .mk 2 Z0 0 .nil (.mk 1 FA 0 .nil .nil)) (hF : S.F = .mk 1 TA 0 .nil .nil) {L lim d : Nat} (hL : L ≤ 2000) (hl : S.lim = (lim : Int)) (hd : S.ds = (d : Int)) (hd2 : L + d < lim) (hlim : lim ≤ 5000) :
  ∀ (n n' m D : Nat) (s ra rn : Gs), Head m D s → s.gw = (L : Int) → m ≤ L → s.gf.gp = [] → Z1 k x n s = some (.done ra) → (ra.gf.gz = 0 ∨ ra.gf.gz = 3) → Z1 k x' n' (sS S s) = some (.done rn) → rn.gf.gz = 0 →
   (0 < ra.gf.gp.length ∧ rn.gf.gp = []) ∨ (ra.gf.gp = [] ∧ 0 < rn.gf.gp.length)
 | 0, n', m, D, s, ra, rn, h, h1, h2, h3, h4, h5, h6, h7 => by rw [Z1] at h4; cases h4
 | n + 1, 0, m, D, s, ra, rn, h, h1, h2, h3, h4, h5, h6, h7 => by rw [Z1] at h6; cases h6
 | n + 1, n' + 1, m, D, s, ra, rn, h, h1, h2, h3, h4, h5, h6, h7 => by
  have ho := h.inv.ov
  have hst := h.st
  have hfo := h.fo
  have no1 : ∀ s2 : Gs, Z1 k x n (Z8i s2 1) = some (.done ra) → False := fun s2 e => by
   have := Z5k hk (by rfl) e
   rw [this] at h5
   have h5 : (1 : Int) = 0 ∨ (1 : Int) = 3 := h5
   omega
  have no2 : ∀ (q : Nat) (s2 : Gs), Z1 k x' q (Z8i s2 1) = some (.done rn) → False := fun q s2 e => by
   have := Z5k hk (by rfl) e
   rw [this] at h7
   have h7 : (1 : Int) = 0 := h7
   omega
  cases hg : s.gh with
  | nil =>
   have e := Zit hk (n := n) (x := x) ho hg
   rw [h4, Zx1 hk h.inv hx s rfl h.an, h3] at e
   have pos : 0 < ra.gf.gp.length := by
    by_cases c : (fP s.gU.ge x).2 = true
    ·rw [if_pos c, if_neg (by decide)] at e
     have hT : ∀ z ∈ [(fP s.gU.ge x).1], BigT z := fun z hz => by rw [List.mem_singleton.1 hz]; exact Zly h.inv.ls hx
     have i2 := Zlb hk h.inv (l := [(fP s.gU.ge x).1]) (by simp) hT
     obtain ⟨r, r', e1, _, hs, hr⟩ := Ztk hk (S0 L) (Z105 _) (m := m) (by omega) .nil i2 h.np (by show s.gU.gd.length ≤ _; have := h.nb; omega)
     rw [List.nil_append, e1, obs] at e
     have ha2 : r.gf.gp = [(fP s.gU.ge x).1] := hs.2.2
     have F : Fini r → 0 < ra.gf.gp.length := fun hf => by rw [Z5k hk hf.1 e.symm, ha2]; exact Nat.one_pos
     rcases hr with ⟨_, hr | hr⟩ | hr
     ·have := ((Zdw hk hx hL (N := 7000) rfl n m (3 * m + 4) r (hr.head (hs.1.trans hst) (by rw [ha2]; simp)) (hs.2.1.trans h1) h2).2 ra e.symm).2.2
      rw [ha2] at this
      exact this
     ·exact F hr.1
     ·exact F hr.1
    ·rw [if_neg c, obs] at e
     exact (no1 _ e.symm).elim
   refine .inl ⟨pos, ?_⟩
   have hg2 : (sS S s).gh = .mk 2 Z0 ((0 : Nat) : Int) .nil (.mk 1 FA 0 .nil .nil) := by show fF S s.gh = _; rw [hg, fF, hB]; rfl
   rw [Zfd hk (s := sS S s) ho hg2 (Nat.zero_le _), List.take_zero] at h6
   cases n' with
   | zero => rw [Z1] at h6; cases h6
   | succ n' =>
    obtain ⟨s3, hs3⟩ : ∃ s3 : Gs, s3 = setG (setP (sS S s) []) (.mk 1 FA 0 .nil .nil) := ⟨_, rfl⟩
    rw [← hs3] at h6
    have g3 : s3.gh = .mk 1 FA 0 .nil .nil := by rw [hs3]; rfl
    have o3 : s3.gv = false := by rw [hs3]; exact ho
    by_cases hlm : s3.gl = s3.gw
    ·rw [Zb9 hk o3 g3 hlm] at h6
     exact (no2 _ _ h6).elim
    ·rw [Z7z hk o3 g3 hlm (by rw [hs3]; show 0 ≤ s.gl + S.ds ∧ s.gl + S.ds ≤ 100000; omega) (by rw [hs3]; show s.gU.ge.length ≤ 1048576; exact Zvt hk h), show wk 5000 s3.gU.ge FA = FA from Zl8 (by decide), Zyx hk, Zsi hk (s := Z6b s3 .nil) o3 (by rw [hs3]; rfl), obs, obs] at h6
     rw [Z5k hk (by rfl) h6, hs3]
     rfl
  | mk kk g mm c nx =>
   rw [hg] at hfo
   cases hfo with
   | @go _ _ D' _ _ a _ k12 hgo ha hn =>
    rcases k12 with rfl | rfl
    ·by_cases hlim2 : m = L
     ·rw [Zb9 hk ho hg (by rw [hst, h1, hlim2])] at h4
      exact (no1 _ h4).elim
     ·rw [Z7z hk ho hg (by rw [hst, h1]; omega) ⟨by omega, by omega⟩ (Zvt hk h)] at h4
      obtain ⟨r, r', e1, e2, hs, hr⟩ := Z11o hk S hS (n := n') (x := x') h (by omega) hg hgo ha (Nat.le_succ _) hn (by rw [hst, hl, hd]; omega) (by omega)
      rw [e1, obs] at h4
      rw [e2] at h6
      have ha2 : r.gf.gp = [] := hs.2.2.trans h3
      have hs1 : r.gl = ((m + 1 : Nat) : Int) := by rw [hs.1]; show s.gl + 1 = _; omega
      rcases hr with ⟨rfl, hr | ⟨hf, he⟩⟩ | ⟨hf, he, hx9⟩
      ·exact Zs4 hx hx' hS hE hB hF hL hl hd hd2 hlim n n' (m + 1) (3 * (m + 1) + 4) r ra rn (hr.head hs1 (by rw [ha2]; decide)) (hs.2.1.trans h1) (by omega) ha2 h4 h5 h6 h7
      ·have := Z5k hk hf.1 h4
       rw [this] at h5
       omega
      ·rcases hx9 with ⟨x1, _⟩ | ⟨_, x2, x3, x4, x5, x6, x7, x8, x9, x10, x11⟩
       ·exact absurd x1 hE
       ·refine .inr ⟨by rw [Z5k hk hf.1 h4]; exact ha2, Z10o hk hx' x2 (by rw [x3, hF]) x4 x5 x10 x11 (by rw [x8]; show 0 ≤ s.gl + 1 + S.ds ∧ s.gl + 1 + S.ds ≤ 100000; omega) h6 h7⟩
    ·rw [Zfd hk ho hg ha] at h4
     rw [cut2 hk S hS h hg ha] at h6
     exact Zs4 hx hx' hS hE hB hF hL hl hd hd2 hlim n n' m D' _ ra rn (h.cut (g := g) ha (Nat.le_succ _) hn) h1 h2 h3 h4 h5 h6 h7
   | @dn _ _ D' _ a u v gg bl th a2 bh _ ha hu hum hv hv3 hlo hbl hth ha2 hbh hn =>
    rw [Zmk hk ho hg] at h4
    rw [dn2 hk S h hg] at h6
    exact Zs4 hx hx' hS hE hB hF hL hl hd hd2 hlim n n' m D' _ ra rn (h.pop (Nat.le_succ _) (hn.other (Nat.le_refl _) rfl rfl hu ha (Nat.le_refl _))) h1 h2 h3 h4 h5 h6 h7
end
theorem Zhp {k : Nat} (hk : maxLen + 1000000 < k) {l : List Gt} (hl : l.length ≤ 1000) (ha : AllB l) : ∀ (m j : Nat), j ≤ l.length → l.length - j < m → Z52 k l m (l.take j) (j : Int) = some (.done l)
 | 0, j, h1, h2 => by omega
 | m + 1, j, h1, h2 => by
  unfold Z52
  have hm : l.length ≤ maxLen := by rw [Zl]; omega
  by_cases hlt : j < l.length
  ·rw [if_pos (by simpa using hlt), Z4c hlt, obs, Zye, Zb5 hk (ha _ (List.getElem_mem hlt)).mid, obs, if_pos (by simp; omega), Z3v hlt hm, ← List.take_succ_eq_append_getElem hlt]
   exact Zhp hk hl ha m (j + 1) (by omega) (by omega)
  ·rw [if_neg (by simpa using hlt), List.take_of_length_le (by omega)]
theorem Zp4 {k : Nat} (hk : maxLen + 1000000 < k) {l : List Gt} (hl : l.length ≤ 1000) (ha : AllB l) : Z5q k l = some l := by
 unfold Z5q
 have hM := Zl
 have e := Zhp hk hl ha k 0 (by omega) (by omega)
 rw [show ((0 : Nat) : Int) = 0 from rfl, List.take_zero] at e
 rw [e]
 rfl
def O0 : Gw := Gw.mk [] 0 (Gt.mk 0 (bs []) 0 []) (bs []) (Gd.mk [] []) 0
def ini (d : Gd) (g : Gt) (V : Nat) (L : Int) : Gs := Gs.mk d ⟨grow [] V, [], 0⟩ V 0 L (.mk 1 g 0 .nil .nil) [] O0 false
theorem Zn3 {d : Gd} (hd : DOk d) {g : Gt} (hg : BigT g) {V : Nat} (hV : V ≤ 3000) (L : Int) : Head 0 1 (ini d g V L) where
 inv := ⟨hd, Zdk (fun z hz => by cases hz) V, by show ((grow [] V).length : Int) = V; rw [Z6f], by show (V : Int) ≤ 3000; omega, fun x hx => (by cases hx), fun i p hp => (by cases hp), ⟨fun x hx => (by cases hx), Nat.zero_le _, Zpx, Nat.zero_le _⟩, rfl⟩
 nb := Nat.zero_le _
 np := Nat.zero_le _
 fo := .go (.inl rfl) hg.go (Nat.le_refl _) .nil
 dd := by decide
 st := rfl
 an := Nat.zero_le _
theorem askE {k : Nat} (hk : maxLen + 1100000 < k) {d : Gd} (hd : DMid d) {g : Gt} (hg : MidT g) {L : Nat} (hL : L ≤ 2000) :
  ∃ o, Zcu k d g (L : Int) = some o ∧ o.gl ≤ (L : Int) ∧ ((o.gz = 1) ∨ ∃ V r, upTs [g] = ((V : Nat) : Int) ∧ V ≤ 3000 ∧ DOk d ∧ tOk g = true ∧ Z1 k g k (ini d g V (L : Int)) = some (.done r) ∧ o.gz = r.gf.gz ∧ o.gp = r.gf.gp) := by
 have hk1 := hk1 hk
 have lim : (if 2000 < (if 0 > (L : Int) then 0 else (L : Int)) then 2000 else (if 0 > (L : Int) then 0 else (L : Int))) = (L : Int) := by
  rw [if_neg (show ¬ 0 > (L : Int) by omega), if_neg (by omega)]
 have J1 : ∀ s : Gs, Fini s → Z7f k s = some (Gw.mk s.gf.gp s.gf.gz s.gf.gx s.gf.gf s.gDb s.gl) := fun s ⟨h1, h2, h3⟩ => by
  unfold Z7f
  rw [Zsk hk1 h2.mid, obs, Zp4 hk1 (by have := h3.2.1; omega) h3.1, obs, Zye, Zb5 hk1 h3.2.2.1.mid, obs]
 obtain ⟨b, e1, hb⟩ := dbOk hk1 hd
 have J2 : (b = false ∨ tOk g = false) → ∃ o, Zbi k d (L : Int) g true = some o ∧ o.gl ≤ (L : Int) ∧ o.gz = 1 := fun _ => by
  unfold Zbi
  rw [if_pos rfl, lim, Zui, obs]
  unfold Z7f
  show ∃ o, ((Z5b k d).bind fun ube => (Z5q k []).bind fun ubf => (Z4m k (Gt.mk 0 (bs []) 0 [])).bind fun ui => some (Gw.mk ubf 1 ui (bs []) ube 0)) = some o ∧ _
  rw [Zsk hk1 hd, obs, Zp4 hk1 (by decide) (fun z hz => by cases hz), obs, Zye, show Z2m k (Gt.mk 0 (bs []) 0 []) = some (Gt.mk 0 (bs []) 0 []) from Zb5 hk1 Zpx.mid, obs]
  exact ⟨_, rfl, by show (0 : Int) ≤ L; omega, rfl⟩
 unfold Zcu
 rw [Zsk hk1 hd, obs, e1, obs]
 cases b with
 | false =>
  rw [if_pos (by rfl)]
  obtain ⟨o, h1, h2, h3⟩ := J2 (.inl rfl)
  exact ⟨o, h1, h2, .inl h3⟩
 | true =>
  rw [if_neg (by decide), Zgu hk1 hg, obs]
  cases ht : tOk g with
  | false =>
   obtain ⟨o, h1, h2, h3⟩ := J2 (.inr ht)
   exact ⟨o, h1, h2, .inl h3⟩
  | true =>
   have hbg := Zd2 hg.1 ht
   have hdo := hb rfl
   obtain ⟨v1, v2⟩ := Zzv hk1 (l := [g]) (by simp only [nsum]; have := hg.2; have := hbg.2.1; omega) (fun x hx => by rw [List.mem_singleton.1 hx]; exact ⟨1, (Zhc ht).1⟩)
   obtain ⟨V, hV⟩ := Int.eq_ofNat_of_zero_le (Zl9 [g])
   unfold Zbi
   rw [if_neg (by decide), lim, v1, obs, hV]
   have e3 := useS hk1 (v := V) (by omega) (Gs.mk d ⟨[], [], 0⟩ 0 0 (L : Int) .nil [] O0 false) (Nat.zero_le _)
   show ∃ o, ((Z20 k (Gs.mk d ⟨[], [], 0⟩ 0 0 (L : Int) .nil [] O0 false) (V : Int)).bind _) = some o ∧ _
   rw [e3, obs]
   by_cases hr : (V : Int) ≤ 3000
   ·rw [decide_eq_true hr, if_neg (by simp)]
    have hh := Zn3 hdo hbg (V := V) (by omega) (L : Int)
    have hM := Zl
    obtain ⟨hr1, hr2⟩ := Zdw hk hbg (L := L) (N := 7000) hL rfl k 0 1 (ini d g V (L : Int)) hh rfl (Nat.zero_le _)
    have hq : ((L - 0) + (8 - 0)) * 7000 + 1 + 1 ≤ 20000000 := by clear hk hk1 hM; omega
    obtain ⟨r, er⟩ := hr1 (Nat.le_trans hq (Nat.le_trans (show 20000000 ≤ maxLen by rw [Zl]; decide) (Nat.le_of_lt (kk1 hk1))))
    obtain ⟨f1, f2, _⟩ := hr2 r er
    refine ⟨Gw.mk r.gf.gp r.gf.gz r.gf.gx r.gf.gf r.gDb r.gl, ?_, ?_, .inr ⟨V, r, rfl, by omega, hdo, rfl, er, ?_, ?_⟩⟩
    ·show ((Z62 k (ini d g V (L : Int)) g).bind _) = _
     unfold Z62
     rw [er, obs]
     show Z7f k r = _
     exact J1 r f1
    ·exact f2
    ·rfl
    ·rfl
   ·rw [decide_eq_false hr, if_pos (by rfl)]
    refine ⟨Gw.mk [] 1 (Gt.mk 0 (bs []) 0 []) (bs []) d 0, ?_, ?_, .inl ?_⟩
    ·show Z7f k (Z8i (mem (Gs.mk d ⟨[], [], 0⟩ 0 0 (L : Int) .nil [] O0 false) ⟨grow [] V, [], 0⟩ V) 1) = _
     rw [J1 _ ⟨rfl, hdo, ⟨fun x hx => (by cases hx), Nat.zero_le _, Zpx, Nat.zero_le _⟩⟩]
     rfl
    ·show (0 : Int) ≤ L; omega
    ·rfl
def NT (g : Gt) : Gt := .mk 4 (bs [92, 43]) 0 [g]
def BT (g : Gt) : Gt := .mk 4 (bs [44]) 0 [g, FA]
def SN (V : Nat) : Sim := ⟨.mk 2 Z0 0 .nil (.mk 1 FA 0 .nil .nil), [Gp.mk 0 0 (V : Int) (.mk 1 TA 0 .nil .nil) (Gt.mk 0 (bs []) 0 []) [] .nil], .mk 1 TA 0 .nil .nil, 400, 1⟩
def SB : Sim := ⟨.mk 1 FA 0 .nil .nil, [], .nil, 400, 1⟩
theorem Z136 {V : Nat} (hV : V ≤ 3000) : SOk (SN V) := ⟨.inr ⟨V, rfl, rfl, hV⟩, fun k m t s => by
 show Z5 k t (m + 3) (.mk 2 Z0 0 .nil (.mk 1 FA 0 .nil .nil)) s = _
 rw [Z5, if_pos (by rfl), if_pos (by rfl), if_pos (by rfl), if_pos (by rfl)]
 show Z5 k t (m + 2) (.mk 1 FA 0 .nil .nil) s = _
 rw [Z5, if_pos (by rfl), if_pos (by rfl), if_pos (by rfl), if_pos (by rfl)]
 show Z5 k t (m + 1) .nil s = _
 rw [Z5, if_neg (show ¬ (!Gf.nil.isNil) = true by decide)]⟩
theorem Z137 : SOk SB := ⟨.inl rfl, fun k m t s => by
 show Z5 k t (m + 3) (.mk 1 FA 0 .nil .nil) s = _
 rw [Z5, if_pos (by rfl), if_pos (by rfl), if_pos (by rfl), if_pos (by rfl)]
 show Z5 k t (m + 2) .nil s = _
 rw [Z5, if_neg (show ¬ (!Gf.nil.isNil) = true by decide)]⟩
section
variable {k : Nat} (hk : maxLen + 1100000 < k)
include hk
theorem Z122 (b : ByteArray) (n : Nat) (hn : n < 10) (l : List Gt) (hl : l.length = n) : Z3c (.mk 4 b 0 l) = (b ++ bs [47]) ++ bs [UInt8.ofNat (48 + n)] := by
 have _ := hk
 unfold Z3c
 rw [if_pos (.inr rfl), ← Z89 hn, ← hl]
 rfl
theorem Z11l {d : Gd} {g : Gt} (hg : BigT g) {V : Nat} (hV : V ≤ 3000) : Z16 k (Z6b (ini d (NT g) V 400) .nil) (NT g) 0 = some (sS (SN V) (ini d g V 200)) := by
 have e : Z3c (NT g) = bs [92, 43, 47, 49] := by
  unfold NT
  rw [Z122 hk _ 1 (by decide) _ rfl]
  decide +kernel
 have w : ∀ z : Gt, z.gi ≠ 1 → Z1y k (grow [] V) z = some (grow [] V, z) := fun z hz => by
  rw [(Zq0 (kk1 (hk1 hk)) (by rw [Z6f]; omega) z).2, Zl8 hz]
 unfold Z16
 rw [Zd6 (k := k) (x := NT g) (.mk (by decide) (fun y hy => by rw [List.mem_singleton.1 hy]; exact hg.2.2)) (show ([g] : List Gt).length ≤ 999999 by simp), obs, e, if_neg (show ¬ ((NT g).gi == 1) = true from (by decide : ¬ ((4 : Int) == 1) = true)), if_neg (show ¬ ((NT g).gi == 3) = true from (by decide : ¬ ((4 : Int) == 3) = true)),
  if_neg (by decide +kernel), if_neg (by decide +kernel), if_neg (by decide +kernel), if_neg (by decide +kernel), if_neg (by decide +kernel), if_neg (by decide +kernel), if_pos (Z6u _)]
 show (Z28 k (Z6b (ini d (NT g) V 400) .nil) (.mk 4 (bs [45, 62]) 0 [g, FA]) TA 0).bind _ = _
 unfold Z28
 show ((Z1y k (grow [] V) (.mk 4 (bs [45, 62]) 0 [g, FA])).bind _).bind _ = _
 rw [w (.mk 4 (bs [45, 62]) 0 [g, FA]) (show (4 : Int) ≠ 1 by decide), obs]
 have hs : Z3r k (.mk 4 (bs [45, 62]) 0 [g, FA]) (bs [45, 62]) 2 = some true := by
  unfold Z3r
  rw [if_pos (by rfl), show (Gt.mk 4 (bs [45, 62]) 0 [g, FA]).gn = bs [45, 62] from rfl, if_pos (Z6u _)]
  rfl
 rw [hs, obs, if_neg (show ¬ (!true) = true by decide)]
 unfold Z1e
 rw [if_pos (by show 0 + 1 ≤ 1073741824; decide)]
 rfl
theorem Z11m {d : Gd} {g : Gt} (hg : BigT g) {V : Nat} : Z16 k (Z6b (ini d (BT g) V 400) .nil) (BT g) 0 = some (sS SB (ini d g V 400)) := by
 have e : Z3c (BT g) = bs [44, 47, 50] := by
  unfold BT
  rw [Z122 hk _ 2 (by decide) _ rfl]
  decide +kernel
 have nm : Nm (BT g) := .mk (by decide) (fun y hy => by
  rcases List.mem_cons.1 hy with rfl | hy
  ·exact hg.2.2
  ·rw [List.mem_singleton.1 hy]; exact (Zw2 hk).2.2)
 unfold Z16
 rw [Zd6 (k := k) (x := BT g) nm (show ([g, FA] : List Gt).length ≤ 999999 by simp), obs, e, if_neg (show ¬ ((BT g).gi == 1) = true from (by decide : ¬ ((4 : Int) == 1) = true)), if_neg (show ¬ ((BT g).gi == 3) = true from (by decide : ¬ ((4 : Int) == 3) = true)),
  if_neg (by decide +kernel), if_neg (by decide +kernel), if_neg (by decide +kernel), if_pos (Z6u _)]
 rfl
theorem Z128 {g : Gt} (hg : BigT g) : MidT (NT g) := by
 have _ := hk
 refine ⟨Zi2 (by omega) (by decide) (by omega) (by simp) (fun y hy => by rw [List.mem_singleton.1 hy]; exact hg.1), ?_⟩
 have := hg.2.1
 unfold NT
 rw [Zmx]
 simp only [nsum]
 omega
theorem Zxd (a : Int) (b : ByteArray) (c : Int) (l : List Gt) (ha : a ≠ 1) : upTs [.mk a b c l] = upTs l := by
 have _ := hk
 have := Zl9 l
 rw [upTs, upT, upTs, if_neg ha]
 omega
theorem Z13f {d : Gd} (hd : DMid d) {g : Gt} (hg : BigT g) : ∃ a n b, Zcu k d g 200 = some a ∧ Zcu k d (NT g) 400 = some n ∧ Zcu k d (BT g) 400 = some b ∧ a.gl ≤ 200 ∧ n.gl ≤ 400 ∧
  ((a.gz = 0 ∨ a.gz = 3) → n.gz = 0 → ((0 < a.gp.length ∧ n.gp = []) ∨ (a.gp = [] ∧ 0 < n.gp.length))) ∧ (b.gz = 0 → b.gp = []) := by
 obtain ⟨a, a1, a2, a3⟩ := askE hk hd hg.mid (L := 200) (by decide)
 obtain ⟨n, n1, n2, n3⟩ := askE hk hd (Z128 hk hg) (L := 400) (by decide)
 obtain ⟨b, b1, b2, b3⟩ := askE hk hd (twoT hk (n := bs [44]) (by decide) hg (Zw2 hk)).1 (L := 400) (by decide)
 obtain ⟨q, hq⟩ : ∃ q, k = q + 1 := ⟨k - 1, by omega⟩
 have first : ∀ (x : Gt) (V : Nat) (r s : Gs), x.gi ≠ 1 → V ≤ 3000 → Z16 k (Z6b (ini d x V 400) .nil) x 0 = some s → Z1 k x k (ini d x V 400) = some (.done r) → Z1 k x q s = some (.done r) := fun x V r s hx hV ht e => by
  rw [show Z1 k x k (ini d x V 400) = Z1 k x (q + 1) (ini d x V 400) by rw [← hq], Z7z hk (s := ini d x V 400) rfl rfl (show (0 : Int) ≠ 400 by decide) ⟨Int.le_refl _, (by decide : (0 : Int) ≤ 100000)⟩ (by show (grow [] V).length ≤ _; rw [Z6f]; omega), Zl8 hx, ht, obs] at e
  exact e
 refine ⟨a, n, b, a1, n1, b1, a2, n2, fun ha hn => ?_, fun hb => ?_⟩
 ·rcases a3 with a3 | ⟨V, ra, v1, v2, hdo, htg, ea, ea1, ea2⟩
  ·omega
  rcases n3 with n3 | ⟨V', rn, w1, w2, _, htn, en, en1, en2⟩
  ·omega
  have hvv : V' = V := by
   unfold NT at w1
   rw [Zxd hk _ _ _ _ (by decide), v1] at w1
   omega
  subst hvv
  have e2 := first (NT g) V' rn _ (show (4 : Int) ≠ 1 by decide) v2 (Z11l hk hg v2) en
  rw [ea1] at ha
  rw [en1] at hn
  rw [ea2, en2]
  exact Zs4 hk (SN V') hg (Zd2 (Z128 hk hg).1 htn) (Z136 v2) (by simp [SN]) rfl rfl (L := 200) (lim := 400) (d := 1) (by decide) rfl rfl (by decide) (by decide) k q 0 1 (ini d g V' 200) ra rn (Zn3 hdo hg v2 200) rfl (by decide) rfl ea ha e2 hn
 ·rcases b3 with b3 | ⟨V, rb, v1, v2, hdo, htb, eb, eb1, eb2⟩
  ·omega
  have e2 := first (BT g) V rb _ (show (4 : Int) ≠ 1 by decide) v2 (Z11m hk hg) eb
  rw [eb1] at hb
  rw [eb2]
  exact Zil hk SB Z137 rfl rfl (lim := 400) (d := 1) rfl (by decide) rfl (by decide) q 0 1 (ini d g V 400) rb (Zn3 hdo hg v2 400) (by decide) e2 hb
end
mutual
theorem Z12g : ∀ (x : Gt) (d : Int), gT d x = true → x.ok
 | .mk a b c l, d, h => by
  rw [gT] at h
  simp only [Bool.and_eq_true] at h
  have hk := Zzk l (d + 1) h.2.2
  have h1 := h.2.1
  unfold one at h1
  rw [Zig, Zif, Zmz, Zcg] at h1
  have e0 : (bs []).size = 0 := rfl
  split at h1
  ·simp only [Bool.and_eq_true, beq_iff_eq] at h1
   have h2 := of_decide_eq_true h1.1
   have h3 := congrArg ByteArray.size (Zax.1 h1.2.1)
   exact Zi2 (by omega) (by omega) (by omega) (by omega) hk
  ·split at h1
   ·simp only [Bool.and_eq_true, beq_iff_eq] at h1
    have h2 := (of_decide_eq_true h1.1).2.2
    exact Zi2 (by omega) (by omega) (by omega) (by omega) hk
   ·split at h1
    ·simp only [Bool.and_eq_true, beq_iff_eq] at h1
     have h2 := of_decide_eq_true h1.1
     have h3 := congrArg ByteArray.size (Zax.1 h1.2.1)
     exact Zi2 (by omega) (by omega) (by omega) (by omega) hk
    ·split at h1
     ·simp only [Bool.and_eq_true, beq_iff_eq] at h1
      have h2 := (of_decide_eq_true h1.1).2.2
      have h3 := of_decide_eq_true h1.2.2
      exact Zi2 (by omega) (by omega) (by omega) (by omega) hk
     ·cases h1
theorem Zzk : ∀ (l : List Gt) (d : Int), gTs d l = true → ∀ x ∈ l, x.ok
 | [], d, h => fun x hx => by cases hx
 | y :: l, d, h => by
  rw [gTs] at h
  simp only [Bool.and_eq_true] at h
  intro x hx
  rcases List.mem_cons.1 hx with h1 | hx
  ·rw [h1]; exact Z12g y d h.1
  ·exact Zzk l d h.2 x hx
end
theorem Zq3 {x : Gt} (h : tOk x = true) : BigT x := Zd2 (Z12g x 1 (Zhc h).1) h
def okD (d : Gd) : Bool := (d.gq.all fun c => tOk c.gA && tOk c.gD) && (Nat.ble d.gq.length 120 && Nat.ble d.gy.length 10)
def unk : ByteArray := bs [117, 110, 107, 110, 111, 119, 110, 47, 49]
def Z10m : List ByteArray := (Za8 0).getD []
def dbB (n : Nat) (c : GXc) (v : Nat) : Bool := match Z5e (n + 3000) Z10m (c, (v : Int)) (n + 3000) 0 (Gd.mk [] []) with
 | some (.done d) => okD d && (match Zbn (n + 3000) d unk with | some e => okD e | none => false)
 | _ => false
theorem dbs (n : Nat) (c : GXc) : (List.range 7).all (dbB n c) = true := by kernel_rfl
def asks : List ByteArray := (Z9o 0).getD []
def Zt0 (x : Gt) : Bool := tOk x && Nat.ble (nT x) 60
def askB (n : Nat) (s : ByteArray) : Bool := match Z71 (n + 3000) (s ++ bs [32, 46]) with
 | some (t, _, true) => Zt0 t && (List.range 3).all fun v => match Zbm (n + 3000) t (v : Int) with | some y => Zt0 y | none => false
 | _ => false
theorem Z130 (n : Nat) : asks.all (askB n) = true := by kernel_rfl
theorem Zv9 {d : Gd} (h : okD d = true) : DMid d := by
 unfold okD at h
 simp only [Bool.and_eq_true, List.all_eq_true] at h
 obtain ⟨h1, h2, h3⟩ := h
 have h2 := Nat.le_of_ble_eq_true h2
 have h3 := Nat.le_of_ble_eq_true h3
 exact ⟨fun c hc => by
  obtain ⟨a, b⟩ := h1 c hc
  have a := Zq3 a
  exact ⟨a.mid, (Zq3 b).mid, a.2.2⟩, by omega, by omega⟩
theorem Z12q {k : Nat} (hk : maxLen + 1100000 < k) {a : List Int} (ha : a.length ≤ 1048576) : ∃ d, Zdf k a = some d ∧ DMid d := by
 obtain ⟨n, rfl⟩ : ∃ n, k = n + 3000 := ⟨k - 3000, by omega⟩
 obtain ⟨c, e1, h1⟩ := Zze (k := n + 3000) ha (kk1 (hk1 hk))
 obtain ⟨c2, v, e2, h2, v1, v2⟩ := Zih h1 (n + 3000) (n := 7) (by decide) (by decide)
 obtain ⟨v, rfl⟩ := Int.eq_ofNat_of_zero_le v1
 have hb := List.all_eq_true.1 (dbs n c2) v (List.mem_range.2 (by omega))
 unfold dbB at hb
 unfold Zdf Zid
 rw [e1, obs, show Za8 (n + 3000) = some Z10m from rfl, obs, e2, obs]
 cases hL : Z5e (n + 3000) Z10m (c2, (v : Int)) (n + 3000) 0 (Gd.mk [] []) with
 | none => rw [hL] at hb; cases hb
 | some o =>
  rw [hL] at hb
  cases o with
  | ret r => cases hb
  | done d =>
   simp only [Bool.and_eq_true] at hb
   obtain ⟨hb1, hb2⟩ := hb
   rw [obs]
   obtain ⟨c3, b, e3, _⟩ := Zvo h2 (n + 3000) (n := 2) (by decide) (by decide)
   show ∃ d2, (((Z85 (n + 3000) c2 2).bind _ : Option (GXc × Gd))).bind _ = some d2 ∧ _
   rw [e3, obs]
   cases b with
   | false => exact ⟨d, rfl, Zv9 hb1⟩
   | true =>
    rw [if_pos rfl]
    cases hO : Zbn (n + 3000) d unk with
    | none => rw [hO] at hb2; cases hb2
    | some e =>
     rw [hO] at hb2
     show ∃ d2, ((Zbn (n + 3000) d unk).bind _ : Option (GXc × Gd)).bind _ = some d2 ∧ _
     rw [hO]
     exact ⟨e, rfl, Zv9 hb2⟩
theorem Ziu {x : Gt} (h : Zt0 x = true) : BigT x ∧ nT x ≤ 60 := by
 unfold Zt0 at h
 simp only [Bool.and_eq_true] at h
 exact ⟨Zq3 h.1, Nat.le_of_ble_eq_true h.2⟩
theorem Z12z (n : Nat) {s : ByteArray} (hs : s ∈ asks) : ∃ t l, Z71 (n + 3000) (s ++ bs [32, 46]) = some (t, l, true) ∧ Zt0 t = true ∧ ∀ v : Nat, v < 3 → ∃ y, Zbm (n + 3000) t (v : Int) = some y ∧ Zt0 y = true := by
 have hb := List.all_eq_true.1 (Z130 n) s hs
 unfold askB at hb
 split at hb
 ·rename_i t l e
  simp only [Bool.and_eq_true, List.all_eq_true] at hb
  refine ⟨t, l, e, hb.1, fun v hv => ?_⟩
  have h2 := hb.2 v (List.mem_range.2 hv)
  split at h2
  ·rename_i y ey; exact ⟨y, ey, h2⟩
  ·cases h2
 ·cases hb
theorem Zww {s : ByteArray} (hs : s ∈ asks) : Z36 s (bs [32, 46]) := by
 have key : asks.all (fun s => Nat.ble s.size 1000) = true := by kernel_rfl
 have := Nat.le_of_ble_eq_true (List.all_eq_true.1 key s hs)
 exact so (by have : (bs [32, 46]).size = 2 := rfl; omega)
theorem Zya {k : Nat} (hk : maxLen + 1100000 < k) {a : List Int} (ha : a.length ≤ 1048576) : ∃ g, Zae k a = some g ∧ BigT g := by
 obtain ⟨n, rfl⟩ : ∃ n, k = n + 3000 := ⟨k - 3000, by omega⟩
 obtain ⟨c, e1, h1⟩ := Zze (k := n + 3000) ha (kk1 (hk1 hk))
 have hne : 0 < asks.length := by decide
 obtain ⟨c2, s, e2, h2, hs⟩ := Zvn h1 (n + 3000) hne (by decide)
 obtain ⟨t, l, e3, t1, _⟩ := Z12z n hs
 obtain ⟨c3, b, e4, h4⟩ := Zvo h2 (n + 3000) (n := 3) (by decide) (by decide)
 unfold Zae Zfr
 rw [e1, obs, show Z9o (n + 3000) = some asks from rfl, obs, e2, obs, if_pos (Zww hs)]
 simp only [e3, e4, obs]
 cases b with
 | false => exact ⟨t, rfl, (Ziu t1).1⟩
 | true =>
  rw [if_pos rfl]
  obtain ⟨c5, s5, e5, h5, hs5⟩ := Zvn h4 (n + 3000) hne (by decide)
  obtain ⟨t5, l5, e6, q1, q2⟩ := Z12z n hs5
  rw [e5, obs, if_pos (Zww hs5)]
  simp only [e6, obs]
  obtain ⟨c6, v, e7, h6, v1, v2⟩ := Zih h5 (n + 3000) (n := 3) (by decide) (by decide)
  obtain ⟨v, rfl⟩ := Int.eq_ofNat_of_zero_le v1
  obtain ⟨y, e8, y1⟩ := q2 v (by omega)
  show ∃ g, (Z8r (n + 3000) (c5, s5) (t5, l5, true) (t, l, true) true).bind _ = some g ∧ _
  unfold Z8r
  rw [if_pos rfl]
  simp only [e7, e8, obs]
  obtain ⟨b1, z1⟩ := Ziu t1
  obtain ⟨b2, z2⟩ := Ziu y1
  refine ⟨.mk 4 (bs [44]) 0 [t, y], rfl, ?_⟩
  obtain ⟨g1, g2, g3⟩ := twoT hk (n := bs [44]) (by decide) b1 b2
  refine ⟨g1.1, ?_, g2⟩
  rw [Zmx]
  simp only [nsum]
  omega
theorem law (a : List Int) (ha : okL (okI .u8) a) : ∃ k, Z9e k a = some true := by
 refine ⟨maxLen + 1100001, ?_⟩
 unfold Z9e Zfm
 rw [obs]
 by_cases hb : decide ((a.length : Int) > 1048576) = true
 ·rw [if_pos hb]
 rw [if_neg hb]
 have ha : a.length ≤ 1048576 := by
  have := of_decide_eq_false (by simpa using hb : decide ((a.length : Int) > 1048576) = false)
  omega
 have hk : maxLen + 1100000 < maxLen + 1100001 := Nat.lt_succ_self _
 generalize maxLen + 1100001 = k at hk
 obtain ⟨d, e1, hd⟩ := Z12q hk ha
 obtain ⟨g, e2, hg⟩ := Zya hk ha
 obtain ⟨o, n, b, a1, n1, b1, s1, s2, p1, p2⟩ := Z13f hk hd hg
 rw [e1, obs, e2, obs, a1, obs, show Zcu k d (Gt.mk 4 (bs [92, 43]) 0 [g]) 400 = some n from n1, obs, show Zcu k d (Gt.mk 4 (bs [44]) 0 [g, Gt.mk 2 (bs [102, 97, 105, 108]) 0 []]) 400 = some b from b1, obs]
 have T : Z32 k o n b true = some true := by
  unfold Z32
  rw [if_pos rfl, decide_eq_true s1, if_pos rfl, decide_eq_true s2]
 have F : (o.gz = 0 ∨ o.gz = 3) → Z32 k o n b (n.gz != 0) = some true := fun h => by
  by_cases hn : n.gz = 0
  ·rw [show (n.gz != 0) = false by rw [hn]; rfl]
   unfold Z32
   rw [if_neg Bool.false_ne_true]
   have hx : (!((decide ((o.gp.length : Int) > 0)) == (decide ((n.gp.length : Int) > 0)))) = true := by
    rcases p1 h hn with ⟨q1, q2⟩ | ⟨q1, q2⟩
    ·rw [q2, decide_eq_true (show (o.gp.length : Int) > 0 from Int.natCast_pos.2 q1)]; rfl
    ·rw [q1, decide_eq_true (show (n.gp.length : Int) > 0 from Int.natCast_pos.2 q2)]; rfl
   rw [if_pos hx]
   by_cases hbE : b.gz = 0
   ·rw [if_neg (by rw [hbE]; decide), p2 hbE]; rfl
   ·rw [if_pos (by simpa using hbE)]
  ·rw [show (n.gz != 0) = true by simpa using hn]; exact T
 by_cases h0 : o.gz = 0
 ·rw [if_neg (by rw [h0]; decide)]; exact F (.inl h0)
 ·rw [if_pos (by simpa using h0)]
  by_cases h3 : o.gz = 3
  ·rw [if_neg (by rw [h3]; decide)]; exact F (.inr h3)
  ·rw [if_pos (by simpa using h3)]; exact T
end FnLogic
end Go.Proofs.YtjaaacbiaimdlaaGreatDoor

/- The law, plainly. -/
import Derived.Test.YtbchncaolapbhaaGreatDoorFn
set_option linter.unusedVariables false
set_option linter.unusedSimpArgs false
namespace Go.Proofs.YtbchncaolapbhaaGreatDoor
open Go.RowKit Go.Bv
namespace FnLoadsAgain
mutual
/-- How many terms stand in a term. -/
def nT : GTerm → Nat
  | .mk _ _ _ l => nTs l
def nTs : List GTerm → Nat
  | [] => 0
  | x :: l => 1 + nT x + nTs l
end
theorem nTs_eq : ∀ l : List GTerm, nTs l = nsum nT l
  | [] => by rw [nTs]; rfl
  | x :: l => by rw [nTs, nsum, nTs_eq l]
theorem nT_kids (x : GTerm) : nT x = nsum nT x.gKids := by
  cases x with
  | mk a b c l => rw [nT, nTs_eq]; rfl

theorem ok_kids {x : GTerm} (h : x.ok) : okL GTerm.ok x.gKids := by cases h with | mk a b c l h1 h2 h3 h4 h5 => exact ⟨h4, h5⟩
theorem ok_name {x : GTerm} (h : x.ok) : okFs x.gName := by cases h with | mk a b c l h1 h2 h3 h4 h5 => exact h2
theorem ok_kind {x : GTerm} (h : x.ok) : okI .i64 x.gKind := by cases h with | mk a b c l h1 h2 h3 h4 h5 => exact h1
theorem ok_num {x : GTerm} (h : x.ok) : okI .i64 x.gNum := by cases h with | mk a b c l h1 h2 h3 h4 h5 => exact h3

theorem mk_gKind (a : Int) (b : ByteArray) (c : Int) (l : List GTerm) : (GTerm.mk a b c l).gKind = a := rfl
theorem mk_gName (a : Int) (b : ByteArray) (c : Int) (l : List GTerm) : (GTerm.mk a b c l).gName = b := rfl
theorem mk_gNum (a : Int) (b : ByteArray) (c : Int) (l : List GTerm) : (GTerm.mk a b c l).gNum = c := rfl
theorem mk_gKids (a : Int) (b : ByteArray) (c : Int) (l : List GTerm) : (GTerm.mk a b c l).gKids = l := rfl

/-- Is it within these bounds? -/
def inR (x a b : Int) : Bool := decide (a ≤ x ∧ x ≤ b)
theorem inR_t {x a b : Int} (h : a ≤ x ∧ x ≤ b) : inR x a b = true := decide_eq_true h
theorem inR_f {x a b : Int} (h : ¬ (a ≤ x ∧ x ≤ b)) : inR x a b = false := decide_eq_false h

theorem l01In (k : Nat) (x a b : Int) : pspec_l01In k x a b = some (inR x a b) := by
  unfold pspec_l01In inR
  by_cases h : a ≤ x
  · rw [if_pos (by simpa using h)]; simp [h]
  · rw [if_neg (by simpa using h)]; simp [h]

theorem within (k : Nat) (x a b : Int) : pimpl_within k x a b = some (inR x a b) := by
  unfold pimpl_within inR
  by_cases h : a ≤ x
  · rw [if_pos (by simpa using h)]; simp [h]
  · rw [if_neg (by simpa using h)]; simp [h]
/-! what is drawn -/
/-- Not by computation: the kernel must not look into the conditions. -/
theorem obs {α β : Type} {a : α} {f : α → Option β} : (some a).bind f = f a := by
  cases h : f a with
  | none => exact h
  | some b => exact h
theorem kk {n k : Nat} (m : Nat) (h : n < k - maxLen) (hm : m ≤ n := by decide) : maxLen + m < k := by
  rw [Nat.add_comm]
  exact Nat.add_lt_of_lt_sub (Nat.lt_of_le_of_lt hm h)
theorem kz {n k : Nat} (h : n < k - maxLen) : maxLen < k := by
  have := kk 0 h (Nat.zero_le _)
  exact this
theorem kle {n k : Nat} (m : Nat) (h : n < k - maxLen) (hm : m ≤ n := by decide) : m < k - maxLen := Nat.lt_of_le_of_lt hm h
theorem band255 (x : Int) : 0 ≤ band .i64 x 255 ∧ band .i64 x 255 ≤ 255 := by
  have h : ∀ b : BitVec 64, (b &&& BitVec.ofInt 64 255).toNat ≤ 255 := by
    intro b
    rw [BitVec.toNat_and]
    exact Nat.and_le_right
  have e : band .i64 x 255 = IntKind.wrap .i64 ((BitVec.ofInt 64 x &&& BitVec.ofInt 64 255).toNat) := rfl
  have h1 := h (BitVec.ofInt 64 x)
  generalize (BitVec.ofInt 64 x &&& BitVec.ofInt 64 255).toNat = n at e h1
  have e2 : wr.i64 (n : Int) = n := wr_i64 (by omega) (by omega)
  rw [e, show IntKind.wrap .i64 (n : Int) = wr.i64 (n : Int) from rfl, e2]
  omega

theorem at_int {α : Type} {l : List α} {v : Int} (h1 : 0 ≤ v) (h2 : v < (l.length : Int)) : ∃ (h : v.toNat < l.length), at' l v = some l[v.toNat] := by
  obtain ⟨n, rfl⟩ := Int.eq_ofNat_of_zero_le h1
  exact ⟨by omega, at_lt (by omega)⟩
/-- A cursor is right. -/
def CurOk (c : GL01Cur) : Prop := c.gB.length ≤ 1048576 ∧ 0 ≤ c.gI ∧ c.gI ≤ (c.gB.length : Int)

theorem l01New_L1 (k : Nat) (a : List Int) (hl : a.length ≤ 1048576) : ∀ (m j : Nat) (h : Int), j ≤ a.length → a.length - j < m → ∃ r, pspec_l01New_L1 k a m h (j : Int) = some (.done r)
  | 0, j, h, h1, h2 => by omega
  | m + 1, j, h, h1, h2 => by
    rw [pspec_l01New_L1]
    have hM := maxLen_eq
    by_cases c : j < a.length
    · rw [if_pos (by simpa using c)]
      split
      · rw [at_lt c, wr_succ c (by omega)]
        exact l01New_L1 k a hl m (j + 1) _ (by omega) (by omega)
      · exact ⟨_, rfl⟩
    · rw [if_neg (by simpa using c)]
      exact ⟨_, rfl⟩
theorem l01New {k : Nat} {a : List Int} (hl : a.length ≤ 1048576) (hk : maxLen < k) : ∃ c, pspec_l01New k a = some c ∧ CurOk c := by
  unfold pspec_l01New
  have hM := maxLen_eq
  obtain ⟨r, e⟩ := l01New_L1 k a hl k 0 (wr.i64 (95101 + (a.length : Int))) (by omega) (by omega)
  rw [show ((0 : Nat) : Int) = 0 from rfl] at e
  rw [e]
  exact ⟨_, rfl, hl, by simp, by simp⟩
theorem l01Byte {c : GL01Cur} (h : CurOk c) (k : Nat) : ∃ c' v, pspec_l01Byte k c = some (c', v) ∧ CurOk c' ∧ 0 ≤ v ∧ v ≤ 255 := by
  unfold pspec_l01Byte
  obtain ⟨h1, h2, h3⟩ := h
  by_cases g : c.gI < (c.gB.length : Int)
  · rw [if_pos (by simpa using g)]
    obtain ⟨hn, e⟩ := at_int h2 g
    rw [e]
    refine ⟨_, _, rfl, ⟨h1, ?_, ?_⟩, (band255 _).1, (band255 _).2⟩
    · simp only; rw [wr_i64 (by omega) (by omega)]; omega
    · simp only; rw [wr_i64 (by omega) (by omega)]; omega
  · rw [if_neg (by simpa using g)]
    exact ⟨_, _, rfl, ⟨h1, h2, h3⟩, (band255 _).1, (band255 _).2⟩
theorem l01Below {c : GL01Cur} (h : CurOk c) (k : Nat) {n : Int} (hn : 0 < n) : ∃ c' v, pspec_l01Below k c n = some (c', v) ∧ CurOk c' ∧ 0 ≤ v ∧ v < n := by
  unfold pspec_l01Below
  rw [if_neg (by simp; omega)]
  split
  · obtain ⟨c', v, e, h1, h2, h3⟩ := l01Byte h k
    rw [e]
    simp only [Option.bind_some]
    rw [if_pos (by omega)]
    exact ⟨_, _, rfl, h1, Int.tmod_nonneg _ h2, Int.tmod_lt_of_pos _ (by omega)⟩
  · obtain ⟨c1, v1, e1, h1, l1, u1⟩ := l01Byte h k
    obtain ⟨c2, v2, e2, h2, l2, u2⟩ := l01Byte h1 k
    obtain ⟨c3, v3, e3, h3, l3, u3⟩ := l01Byte h2 k
    obtain ⟨c4, v4, e4, h4, l4, u4⟩ := l01Byte h3 k
    simp only [e1, e2, e3, e4, Option.bind_some]
    rw [if_pos (by omega)]
    have w1 : wr.i64 (v1 * 16777216) = v1 * 16777216 := wr_i64 (by omega) (by omega)
    have w2 : wr.i64 (v2 * 65536) = v2 * 65536 := wr_i64 (by omega) (by omega)
    have w3 : wr.i64 (v3 * 256) = v3 * 256 := wr_i64 (by omega) (by omega)
    rw [w1, w2, w3, wr_i64 (x := v1 * 16777216 + v2 * 65536) (by omega) (by omega), wr_i64 (x := v1 * 16777216 + v2 * 65536 + v3 * 256) (by omega) (by omega), wr_i64 (by omega) (by omega)]
    exact ⟨_, _, rfl, h4, Int.tmod_nonneg _ (by omega), Int.tmod_lt_of_pos _ (by omega)⟩
theorem at_mem {α : Type} {l : List α} {v : Int} (h1 : 0 ≤ v) (h2 : v < (l.length : Int)) : ∃ x, at' l v = some x ∧ x ∈ l := by
  obtain ⟨hn, e⟩ := at_int h1 h2
  exact ⟨_, e, List.getElem_mem hn⟩

theorem l01Pick {c : GL01Cur} (h : CurOk c) (k : Nat) {l : List ByteArray} (hl : 0 < l.length) : ∃ c' s, pspec_l01Pick k c l = some (c', s) ∧ CurOk c' ∧ s ∈ l := by
  unfold pspec_l01Pick
  obtain ⟨c', v, e, h1, h2, h3⟩ := l01Below h k (n := (l.length : Int)) (by omega)
  obtain ⟨s, e2, h5⟩ := at_mem h2 h3
  simp only [e, e2, Option.bind_some]
  exact ⟨_, _, rfl, h1, h5⟩
def FACTS : ByteArray := bs [102, 97, 99, 116, 115]
/-- Names that files have here. -/
def nmF (s : ByteArray) : Prop := s = FACTS ∨ s = bs [111, 110, 101] ∨ s = bs [116, 119, 111] ∨ s = bs [122, 111, 111]
theorem name_ok (n : Nat) {s : ByteArray} (h : nmF s) : pspec_l16Name (n + 20) s = some true := by
  rcases h with rfl | rfl | rfl | rfl <;> kernel_rfl
/-- Files that are right, as they are here. -/
structure FOk (l : List GFile) : Prop where
  nm : ∀ f ∈ l, nmF f.gName
  sz : ∀ f ∈ l, f.gText.size ≤ 3000
  so : ∀ (i : Nat) (h : i + 1 < l.length), sLt (l[i]'(by omega)).gName l[i + 1].gName = true
  len : l.length ≤ 4
theorem filesOk_L1 {n : Nat} {l : List GFile} (h : FOk l) : ∀ (m j : Nat), j ≤ l.length → l.length - j < m → pspec_FilesOk_L1 (n + 20) l m (j : Int) = some (.done ())
  | 0, j, h1, h2 => by omega
  | m + 1, j, h1, h2 => by
    have hlen := h.len
    unfold pspec_FilesOk_L1
    by_cases hlt : j < l.length
    · have hm := List.getElem_mem hlt
      have e1 := h.sz _ hm
      have hw : wr.i64 ((j : Int) + 1) = ((j + 1 : Nat) : Int) := by rw [wr_i64 (by omega) (by omega)]; omega
      rw [if_pos (by simpa using hlt), at_lt hlt, obs, name_ok n (h.nm _ hm), obs, if_neg (by decide), obs, if_neg (by simp; omega)]
      cases j with
      | zero =>
        rw [if_neg (by decide), hw]
        exact filesOk_L1 h m 1 (by omega) (by omega)
      | succ j =>
        have e2 := h.so j hlt
        rw [if_pos (by simp), show wr.i64 (((j + 1 : Nat) : Int) - 1) = (j : Int) by rw [wr_i64 (by omega) (by omega)]; omega, at_lt (show j < l.length by omega), obs, obs, e2, if_neg (by decide), hw]
        exact filesOk_L1 h m (j + 1 + 1) (by omega) (by omega)
    · rw [if_neg (by simpa using hlt)]
theorem filesOk {n : Nat} {l : List GFile} (h : FOk l) : pspec_FilesOk (n + 20) l = some true := by
  have hlen := h.len
  unfold pspec_FilesOk
  have e := filesOk_L1 (n := n) h (n + 20) 0 (by omega) (by omega)
  rw [show ((0 : Nat) : Int) = 0 from rfl] at e
  rw [e]
  simp
  omega
theorem storedJ3 {n : Nat} {l m : List GFile} (h1 : FOk l) (h2 : FOk m) : pspec_Stored_J3 (n + 20) l m = some (m, true) := by
  unfold pspec_Stored_J3
  rw [filesOk h2, obs, if_neg (by decide), filesOk h1, obs, if_neg (by decide)]
/-- Put at the end. -/
theorem stored_last {n : Nat} {nm t : ByteArray} {l : List GFile} (hl : l.length ≤ 4) (h : ∀ f ∈ l, sLt f.gName nm = true) : ∀ (m j : Nat), j ≤ l.length → l.length - j < m → pspec_Stored_L1 (n + 20) l nm t m (l.take j) false (j : Int) = some (.done (l, false))
  | 0, j, h1, h2 => by omega
  | m + 1, j, h1, h2 => by
    unfold pspec_Stored_L1
    by_cases hlt : j < l.length
    · have hw : wr.i64 ((j : Int) + 1) = ((j + 1 : Nat) : Int) := by rw [wr_i64 (by omega) (by omega)]; omega
      rw [if_pos (by simpa using hlt), if_pos (by rfl), at_lt hlt, obs, h _ (List.getElem_mem hlt)]
      unfold pspec_Stored_J2
      rw [if_neg (by decide), at_lt hlt, obs, if_pos (by simp; omega), hw, ← List.take_succ_eq_append_getElem hlt]
      exact stored_last hl h m (j + 1) (by omega) (by omega)
    · rw [if_neg (by simpa using hlt), List.take_of_length_le (by omega)]
theorem storedEnd {n : Nat} {nm t : ByteArray} {l : List GFile} (hl : FOk l) (h : ∀ f ∈ l, sLt f.gName nm = true) (h2 : FOk (l ++ [.mk nm t])) : pspec_Stored (n + 20) l nm t = some (l ++ [.mk nm t], true) := by
  have hlen := hl.len
  unfold pspec_Stored
  have e := stored_last (n := n) (nm := nm) (t := t) (l := l) (by omega) h (n + 20) 0 (by omega) (by omega)
  rw [show ((0 : Nat) : Int) = 0 from rfl, List.take_zero] at e
  rw [e, obs]
  show (if (!false) = true then _ else _) = _
  rw [if_pos (by rfl), if_pos (by simp; omega)]
  exact storedJ3 hl h2
/-- The rest is put behind. -/
theorem stored_rest {n : Nat} {nm t : ByteArray} {l : List GFile} (hl : l.length ≤ 4) : ∀ (m j : Nat) (a : List GFile), a.length ≤ j + 1 → j ≤ l.length → l.length - j < m → pspec_Stored_L1 (n + 20) l nm t m a true (j : Int) = some (.done (a ++ l.drop j, true))
  | 0, j, a, h0, h1, h2 => by omega
  | m + 1, j, a, h0, h1, h2 => by
    unfold pspec_Stored_L1
    by_cases hlt : j < l.length
    · have hw : wr.i64 ((j : Int) + 1) = ((j + 1 : Nat) : Int) := by rw [wr_i64 (by omega) (by omega)]; omega
      rw [if_pos (by simpa using hlt), if_neg (by decide)]
      unfold pspec_Stored_J2
      rw [if_neg (by decide), at_lt hlt, obs, if_pos (by simp; omega), hw, stored_rest hl m (j + 1) (a ++ [l[j]]) (by simp; omega) (by omega) (by omega), List.drop_eq_getElem_cons hlt]
      simp
    · rw [if_neg (by simpa using hlt), List.drop_of_length_le (by omega)]
      simp
theorem storedFirst {n : Nat} {t : ByteArray} {l : List GFile} (hl : FOk l) (h : ∀ f ∈ l, sLt f.gName FACTS = false ∧ sEq f.gName FACTS = false) (h2 : FOk (.mk FACTS t :: l)) : pspec_Stored (n + 20) l FACTS t = some (.mk FACTS t :: l, true) := by
  have hlen := hl.len
  unfold pspec_Stored
  cases l with
  | nil =>
    rw [show n + 20 = n + 19 + 1 from rfl, pspec_Stored_L1, if_neg (by decide), obs]
    show (if (!false) = true then _ else _) = _
    rw [if_pos (by rfl), if_pos (by simp)]
    exact storedJ3 hl h2
  | cons f l =>
    obtain ⟨q1, q2⟩ := h f (List.mem_cons_self ..)
    have e : pspec_Stored_L1 (n + 20) (f :: l) FACTS t (n + 20) [] false 0 = some (.done (.mk FACTS t :: f :: l, true)) := by
      rw [show n + 20 = n + 19 + 1 from rfl, pspec_Stored_L1, if_pos (by simp), if_pos (by rfl), show at' (f :: l) 0 = some f from rfl, obs, q1]
      unfold pspec_Stored_J2
      rw [if_pos (by rfl), if_pos (by simp), show at' (f :: l) 0 = some f from rfl, obs, q2, if_neg (by decide), obs, if_pos (by simp)]
      have e := stored_rest (n := n) (nm := FACTS) (t := t) (l := f :: l) (by omega) (n + 19) 1 [.mk FACTS t, f] (by simp) (by simp) (by omega)
      rw [show n + 19 + 1 = n + 20 from rfl]
      exact e
    rw [e, obs]
    show (if (!true) = true then _ else _) = _
    rw [if_neg (by decide)]
    exact storedJ3 hl h2
/-! texts -/
theorem iteP {α : Type} {P : α → Prop} {c : Prop} [Decidable c] {a b : α} (h1 : c → P a) (h2 : ¬ c → P b) : P (if c then a else b) := by
  by_cases h : c
  · rw [if_pos h]; exact h1 h
  · rw [if_neg h]; exact h2 h
theorem ba_size (a b : ByteArray) : (a ++ b).size = a.size + b.size := ByteArray.size_append
theorem text_L1 {n : Nat} {l : List ByteArray} (hl : 0 < l.length) (hs : ∀ s ∈ l, s.size ≤ 70) : ∀ (m j : Nat) (t : ByteArray) (c : GL01Cur), j ≤ 5 → 6 - j ≤ m → t.size ≤ 200 * j → CurOk c → ∃ t' c', pspec_l16Text_L1 n l m t (j : Int) c = some (.done (t', c')) ∧ CurOk c' ∧ t'.size ≤ 1000
  | 0, j, t, c, h1, h2, h3, h4 => by omega
  | m + 1, j, t, c, h1, h2, h3, h4 => by
    unfold pspec_l16Text_L1
    obtain ⟨c1, v, e1, g1, g2, g3⟩ := l01Below h4 n (n := 6) (by decide)
    rw [e1, obs]
    by_cases hv : (j : Int) < v
    · have hw : wr.i64 ((j : Int) + 1) = ((j + 1 : Nat) : Int) := by rw [wr_i64 (by omega) (by omega)]; omega
      have go : ∀ (t2 : ByteArray) (c2 : GL01Cur), t2.size ≤ t.size + 200 → CurOk c2 → ∃ t' c', pspec_l16Text_L1 n l m t2 (wr.i64 ((j : Int) + 1)) c2 = some (.done (t', c')) ∧ CurOk c' ∧ t'.size ≤ 1000 := fun t2 c2 q1 q2 => by
        rw [hw]
        exact text_L1 hl hs m (j + 1) t2 c2 (by omega) (by omega) (by omega) q2
      have sum : ∀ a b : ByteArray, a.size ≤ 2000 → b.size ≤ 2000 → sumOk a b := fun a b h1 h2 => by unfold sumOk; omega
      obtain ⟨c2, w, e2, g4, g5, g6⟩ := l01Below g1 n (n := 12) (by decide)
      rw [if_pos (by simpa using hv), e2, obs]
      have z : ∀ x : ByteArray, x.size ≤ 70 → sumOk t x ∧ (t ++ x).size ≤ t.size + 70 := fun x hx => ⟨sum _ _ (by omega) (by omega), by rw [ba_size]; omega⟩
      have lit : ∀ x : ByteArray, x.size ≤ 70 → ∀ c2, CurOk c2 → ∃ t' c', (if sumOk t x then pspec_l16Text_L1 n l m (t ++ x) (wr.i64 ((j : Int) + 1)) c2 else none) = some (.done (t', c')) ∧ CurOk c' ∧ t'.size ≤ 1000 := fun x hx c2 hc => by
        obtain ⟨q1, q2⟩ := z x hx
        rw [if_pos q1]
        exact go _ _ (by omega) hc
      let P : Option (Out (GL01Cur × ByteArray) (ByteArray × GL01Cur)) → Prop := fun r => ∃ t' c', r = some (.done (t', c')) ∧ CurOk c' ∧ t'.size ≤ 1000
      refine iteP (P := P) (fun _ => ?_) (fun _ => ?_)
      · exact lit _ (by decide) _ g4
      refine iteP (P := P) (fun _ => ?_) (fun _ => ?_)
      · obtain ⟨q1, q2⟩ := z (bs [58, 45, 32, 105, 102, 40, 112, 40, 97, 41, 41, 46, 10]) (by decide)
        obtain ⟨c3, s, e3, g7, g8⟩ := l01Pick g4 n hl
        have hss := hs s g8
        have a1 := ba_size (t ++ bs [58, 45, 32, 105, 102, 40, 112, 40, 97, 41, 41, 46, 10]) s
        have a2 := ba_size (t ++ bs [58, 45, 32, 105, 102, 40, 112, 40, 97, 41, 41, 46, 10] ++ s) (bs [46, 10, 58, 45, 32, 101, 108, 115, 101, 46, 10, 122, 40, 49, 41, 46, 10, 58, 45, 32, 101, 110, 100, 105, 102, 46, 10])
        have a3 : (bs [46, 10, 58, 45, 32, 101, 108, 115, 101, 46, 10, 122, 40, 49, 41, 46, 10, 58, 45, 32, 101, 110, 100, 105, 102, 46, 10]).size ≤ 50 := by decide
        rw [if_pos q1, e3, obs]
        dsimp only
        rw [if_pos (sum _ _ (by omega) (by omega)), if_pos (sum _ _ (by omega) (by omega))]
        exact go _ _ (by omega) g7
      refine iteP (P := P) (fun _ => ?_) (fun _ => ?_)
      · exact lit _ (by decide) _ g4
      refine iteP (P := P) (fun _ => ?_) (fun _ => ?_)
      · exact lit _ (by decide) _ g4
      refine iteP (P := P) (fun _ => ?_) (fun _ => ?_)
      · exact lit _ (by decide) _ g4
      refine iteP (P := P) (fun _ => ?_) (fun _ => ?_)
      · exact lit _ (by decide) _ g4
      refine iteP (P := P) (fun _ => ?_) (fun _ => ?_)
      · obtain ⟨c3, s, e3, g7, g8⟩ := l01Pick g4 n (l := [(bs [97, 32, 98, 46, 10]), (bs [58, 45, 32, 101, 108, 115, 101, 46, 10]), (bs [58, 45, 32, 105, 102, 40, 116, 114, 117, 101, 41, 46, 10]), (bs [58, 45, 32, 101, 110, 100, 105, 102, 46, 10]), (bs [88, 46, 10]), (bs [116, 114, 117, 101, 46, 10]), (bs [58, 45, 32, 97, 115, 115, 101, 114, 116, 122, 40, 112, 40, 110, 41, 41, 46, 10]), (bs [58, 45, 32, 105, 110, 99, 108, 117, 100, 101, 40, 110, 111, 110, 101, 41, 46, 10])]) (by decide)
        have hss : ∀ s ∈ [(bs [97, 32, 98, 46, 10]), (bs [58, 45, 32, 101, 108, 115, 101, 46, 10]), (bs [58, 45, 32, 105, 102, 40, 116, 114, 117, 101, 41, 46, 10]), (bs [58, 45, 32, 101, 110, 100, 105, 102, 46, 10]), (bs [88, 46, 10]), (bs [116, 114, 117, 101, 46, 10]), (bs [58, 45, 32, 97, 115, 115, 101, 114, 116, 122, 40, 112, 40, 110, 41, 41, 46, 10]), (bs [58, 45, 32, 105, 110, 99, 108, 117, 100, 101, 40, 110, 111, 110, 101, 41, 46, 10])], s.size ≤ 70 := by decide
        rw [e3, obs]
        exact lit _ (hss s g8) _ g7
      · obtain ⟨c3, s, e3, g7, g8⟩ := l01Pick g4 n hl
        have hss := hs s g8
        have a1 := ba_size t s
        have a2 := ba_size (t ++ s) (bs [46, 10])
        have a3 : (bs [46, 10]).size ≤ 50 := by decide
        rw [e3, obs]
        dsimp only
        rw [if_pos (sum _ _ (by omega) (by omega)), if_pos (sum _ _ (by omega) (by omega))]
        exact go _ _ (by omega) g7
    · rw [if_neg (by simpa using hv)]
      exact ⟨_, _, rfl, g1, by omega⟩
theorem l16Text {n : Nat} {c : GL01Cur} (h : CurOk c) : ∃ c' t, pspec_l16Text (n + 20) c = some (c', t) ∧ CurOk c' ∧ t.size ≤ 1000 := by
  unfold pspec_l16Text
  obtain ⟨l, el, h1, h2⟩ : ∃ l, pspec_l08Lines (n + 20) = some l ∧ 0 < l.length ∧ ∀ s ∈ l, s.size ≤ 70 := ⟨_, rfl, by decide, by decide⟩
  rw [el, obs]
  obtain ⟨t, c', e, h1, h2⟩ := text_L1 (n := n + 20) (l := l) h1 h2 (n + 20) 0 (bs []) c (by omega) (by omega) (by decide) h
  rw [show ((0 : Nat) : Int) = 0 from rfl] at e
  rw [e]
  exact ⟨_, _, rfl, h1, h2⟩
theorem ok_nil : FOk [] := ⟨fun f h => (by cases h), fun f h => (by cases h), fun i h => (by simp at h), by simp⟩
theorem ok_last {l : List GFile} {f : GFile} (h : FOk l) (h1 : nmF f.gName) (h2 : f.gText.size ≤ 3000) (h3 : ∀ g ∈ l, sLt g.gName f.gName = true) (h4 : l.length ≤ 3) : FOk (l ++ [f]) := by
  refine ⟨fun g hg => ?_, fun g hg => ?_, fun i hi => ?_, by simp; omega⟩
  · rcases List.mem_append.1 hg with hg | hg
    · exact h.nm g hg
    · rw [List.mem_singleton.1 hg]; exact h1
  · rcases List.mem_append.1 hg with hg | hg
    · exact h.sz g hg
    · rw [List.mem_singleton.1 hg]; exact h2
  · rw [List.length_append] at hi
    simp only [List.length_singleton] at hi
    by_cases c : i + 1 < l.length
    · rw [List.getElem_append_left c, List.getElem_append_left (by omega)]
      exact h.so i c
    · have : i + 1 = l.length := by omega
      rw [List.getElem_append_left (show i < l.length by omega), List.getElem_append_right (by omega)]
      simp only [List.getElem_singleton]
      exact h3 _ (List.getElem_mem _)
/-- Files whose names come in this order. -/
def NM : List ByteArray := [bs [111, 110, 101], bs [116, 119, 111], bs [122, 111, 111]]
theorem nm_lt : ∀ i < 3, ∀ j < i, sLt (NM.getD j FACTS) (NM.getD i FACTS) = true := by decide +kernel
theorem nm_f : ∀ i < 3, nmF (NM.getD i FACTS) := by
  intro i hi
  match i, hi with
  | 0, _ => exact .inr (.inl rfl)
  | 1, _ => exact .inr (.inr (.inl rfl))
  | 2, _ => exact .inr (.inr (.inr rfl))
theorem nm_facts : ∀ i < 3, sLt (NM.getD i FACTS) FACTS = false ∧ sEq (NM.getD i FACTS) FACTS = false ∧ sLt FACTS (NM.getD i FACTS) = true := by decide +kernel
/-- What was drawn so far. -/
structure Dr (j : Nat) (l : List GFile) : Prop where
  ok : FOk l
  nm : ∀ f ∈ l, ∃ i, i < j ∧ f.gName = NM.getD i FACTS
  len : l.length ≤ j
theorem once {n : Nat} {c : GL01Cur} (h : CurOk c) : ∃ c' b, pspec_l01Once n c 4 = some (c', b) ∧ CurOk c' := by
  unfold pspec_l01Once
  obtain ⟨c', v, e, h1, _⟩ := l01Below h n (n := 4) (by decide)
  rw [e]
  exact ⟨_, _, rfl, h1⟩
theorem files_L1 {n : Nat} : ∀ (m j : Nat) (l : List GFile) (c : GL01Cur), j ≤ 3 → 3 - j < m → Dr j l → CurOk c → ∃ l' c', pspec_l16Files_L1 (n + 20) m l (j : Int) c = some (.done (l', c')) ∧ CurOk c' ∧ Dr 3 l'
  | 0, j, l, c, h1, h2, h3, h4 => by omega
  | m + 1, j, l, c, h1, h2, h3, h4 => by
    unfold pspec_l16Files_L1
    by_cases hlt : j < 3
    · have hw : wr.i64 ((j : Int) + 1) = ((j + 1 : Nat) : Int) := by rw [wr_i64 (by omega) (by omega)]; omega
      obtain ⟨c1, b, e1, g1⟩ := once (n := n + 20) h4
      have up : Dr (j + 1) l := ⟨h3.ok, fun f hf => by obtain ⟨i, q, r⟩ := h3.nm f hf; exact ⟨i, by omega, r⟩, by have := h3.len; omega⟩
      rw [if_pos (by simp; omega), e1, obs]
      cases b with
      | true =>
        rw [if_neg (by simp), hw]
        exact files_L1 m (j + 1) l c1 (by omega) (by omega) up g1
      | false =>
        have ea : at' [(bs [111, 110, 101]), (bs [116, 119, 111]), (bs [122, 111, 111])] (j : Int) = some (NM.getD j FACTS) := by
          match j, hlt with
          | 0, _ => rfl
          | 1, _ => rfl
          | 2, _ => rfl
        obtain ⟨c2, t, e2, g2, g3⟩ := l16Text (n := n) g1
        have hlen := h3.len
        have hlt2 : ∀ f ∈ l, sLt f.gName (NM.getD j FACTS) = true := fun f hf => by
          obtain ⟨i, q, r⟩ := h3.nm f hf
          rw [r]
          exact nm_lt j hlt i q
        have ok2 : FOk (l ++ [.mk (NM.getD j FACTS) t]) := ok_last h3.ok (nm_f j hlt) (by show t.size ≤ 3000; omega) hlt2 (by omega)
        rw [if_pos (by simp), ea, obs, e2, obs, storedEnd h3.ok hlt2 ok2, obs, hw]
        refine files_L1 m (j + 1) _ c2 (by omega) (by omega) ⟨ok2, fun f hf => ?_, by simp; omega⟩ g2
        rcases List.mem_append.1 hf with hf | hf
        · obtain ⟨i, q, r⟩ := h3.nm f hf
          exact ⟨i, by omega, r⟩
        · rw [List.mem_singleton.1 hf]
          exact ⟨j, by omega, rfl⟩
    · rw [if_neg (by simp; omega)]
      have : j = 3 := by omega
      subst this
      exact ⟨_, _, rfl, h4, h3⟩
theorem drawFiles {n : Nat} {a : List Int} (hl : a.length ≤ 1048576) (hk : maxLen < n + 20) : ∃ l, pspec_DrawFiles (n + 20) a = some l ∧ Dr 3 l := by
  obtain ⟨c, e1, g1⟩ := l01New (k := n + 20) hl hk
  obtain ⟨l, c2, e2, _, g2⟩ := files_L1 (n := n) (n + 20) 0 [] c (by omega) (by omega) ⟨ok_nil, fun f h => (by cases h), by simp⟩ g1
  rw [show ((0 : Nat) : Int) = 0 from rfl] at e2
  unfold pspec_DrawFiles pspec_l16Files
  rw [e1, obs, e2]
  exact ⟨_, rfl, g2⟩
theorem ok_cons {l : List GFile} {f : GFile} (h : FOk l) (h1 : nmF f.gName) (h2 : f.gText.size ≤ 3000) (h3 : ∀ g ∈ l, sLt f.gName g.gName = true) (h4 : l.length ≤ 3) : FOk (f :: l) := by
  refine ⟨fun g hg => ?_, fun g hg => ?_, fun i hi => ?_, by simp; omega⟩
  · rcases List.mem_cons.1 hg with rfl | hg
    · exact h1
    · exact h.nm g hg
  · rcases List.mem_cons.1 hg with rfl | hg
    · exact h2
    · exact h.sz g hg
  · cases i with
    | zero =>
      simp only [List.getElem_cons_zero, List.getElem_cons_succ]
      exact h3 _ (List.getElem_mem _)
    | succ i =>
      simp only [List.getElem_cons_succ]
      exact h.so i (by simp at hi; omega)
theorem stored {n : Nat} {l : List GFile} (h : Dr 3 l) {t : ByteArray} (ht : t.size ≤ 3000) : pspec_Stored (n + 20) l FACTS t = some (.mk FACTS t :: l, true) := by
  refine storedFirst h.ok (fun f hf => ?_) (ok_cons h.ok (.inl rfl) ht (fun f hf => ?_) h.len)
  · obtain ⟨i, q, r⟩ := h.nm f hf
    rw [r]
    exact ⟨(nm_facts i q).1, (nm_facts i q).2.1⟩
  · obtain ⟨i, q, r⟩ := h.nm f hf
    rw [r]
    exact (nm_facts i q).2.2
theorem places_L1 {k : Nat} : ∀ (m j : Nat) (l : List Int) (c : GL01Cur), CurOk c → j ≤ 12 → 12 - j < m → l.length = j → (∀ x ∈ l, 0 ≤ x ∧ x ≤ 9999) → ∃ l', pspec_DrawPlaces_L1 k m l (j : Int) c = some (.done l') ∧ l'.length = 12 ∧ ∀ x ∈ l', 0 ≤ x ∧ x ≤ 9999
  | 0, j, l, c, hc, h1, h2, h3, h4 => by omega
  | m + 1, j, l, c, hc, h1, h2, h3, h4 => by
    unfold pspec_DrawPlaces_L1
    by_cases hlt : j < 12
    · rw [if_pos (by simp; omega)]
      obtain ⟨c1, v, e1, g1, g2, g3⟩ := l01Below hc k (n := 10000) (by decide)
      rw [e1]
      simp only [obs]
      rw [if_pos (by simp; omega), show wr.i64 ((j : Int) + 1) = ((j + 1 : Nat) : Int) by rw [wr_i64 (by omega) (by omega)]; omega]
      refine places_L1 m (j + 1) (l ++ [v]) c1 g1 (by omega) (by omega) (by simp; omega) (fun x hx => ?_)
      rcases List.mem_append.1 hx with hx | hx
      · exact h4 x hx
      · rw [List.mem_singleton.1 hx]
        omega
    · rw [if_neg (by simp; omega)]
      exact ⟨_, rfl, by omega, h4⟩
theorem places {n : Nat} {a : List Int} (hl : a.length ≤ 1048576) (hk : maxLen < n + 20) : ∃ l, pspec_DrawPlaces (n + 20) a = some l ∧ l.length = 12 ∧ ∀ x ∈ l, 0 ≤ x ∧ x ≤ 9999 := by
  unfold pspec_DrawPlaces
  obtain ⟨c, e1, g1⟩ := l01New (k := n + 20) hl hk
  obtain ⟨c2, v, e2, g2, _⟩ := l01Byte g1 (n + 20)
  obtain ⟨l, e3, g3, g4⟩ := places_L1 (k := n + 20) (n + 20) 0 [] c2 g2 (by omega) (by omega) rfl (by simp)
  rw [show ((0 : Nat) : Int) = 0 from rfl] at e3
  rw [e1, obs, e2, obs, e3]
  exact ⟨_, rfl, g3, g4⟩
theorem bs_size (L : List UInt8) : (bs L).size = L.length := by simp [bs, ByteArray.size]
theorem bt_bs (L : List UInt8) (n : Nat) : bt (bs L) (n : Int) = (((L[n]?).getD 0).toNat : Int) := by
  unfold bt
  rw [Int.toNat_natCast]
  congr 2
  simp only [bs]
  rcases Nat.lt_or_ge n L.length with h | h
  · rw [getElem?_pos _ n (by simpa [ByteArray.size] using h), List.getElem?_eq_getElem h]
    rfl
  · rw [getElem?_neg _ n (by simpa [ByteArray.size] using h), List.getElem?_eq_none h]
theorem ext_bs (L : List UInt8) (a b : Nat) : (bs L).extract a b = bs ((L.drop a).take (b - a)) := by
  apply ByteArray.ext
  simp only [bs, ByteArray.data_extract]
  apply Array.ext'
  simp
/-- What stands at a place. -/
theorem here {L : List UInt8} {q : Nat} {x : UInt8} {R : List UInt8} (h : L.drop q = x :: R) : q < (bs L).size ∧ bt (bs L) (q : Int) = (x.toNat : Int) ∧ L.drop (q + 1) = R ∧ (q : Int) < ((bs L).size : Int) := by
  have hl : q < L.length := by
    rcases Nat.lt_or_ge q L.length with h1 | h1
    · exact h1
    · rw [List.drop_of_length_le h1] at h
      cases h
  rw [List.drop_eq_getElem_cons hl] at h
  injection h with h1 h2
  rw [bs_size]
  refine ⟨hl, ?_, h2, by omega⟩
  rw [bt_bs, List.getElem?_eq_getElem hl, ← h1]
  rfl
theorem idx {s : ByteArray} {q : Nat} (h : q < s.size) : 0 ≤ (q : Int) ∧ (q : Int).toNat < s.size := ⟨by omega, by rw [Int.toNat_natCast]; exact h⟩
theorem up {q s : Nat} (h : q < s) (hs : s ≤ 3000) : wr.i64 ((q : Int) + 1) = ((q + 1 : Nat) : Int) := by rw [wr_i64 (by omega) (by omega)]; omega
theorem runW {k : Nat} {L : List UInt8} {q : Nat} {x : UInt8} {R : List UInt8} (hs : L.length ≤ 3000) (h : L.drop q = x :: R) {b : Bool} (hw : pimpl_wordByte k (x.toNat : Int) = some b) (m : Nat) :
    pimpl_run_on2_pimpl_wordByte_L1 k (bs L) (m + 1) (q : Int) = if b = true then pimpl_run_on2_pimpl_wordByte_L1 k (bs L) m ((q + 1 : Nat) : Int) else some (.done (q : Int)) := by
  obtain ⟨h1, h2, h3, h4⟩ := here h
  rw [pimpl_run_on2_pimpl_wordByte_L1, if_pos (by simpa using h1), if_pos (idx h1), h2, hw, obs, up h1 (by rw [bs_size]; exact hs)]
theorem runF {k : Nat} {L : List UInt8} {q : Nat} {x : UInt8} {R : List UInt8} (hs : L.length ≤ 3000) (h : L.drop q = x :: R) {b : Bool} (hw : pimpl_figure k (x.toNat : Int) = some b) (m : Nat) :
    pimpl_run_on2_pimpl_figure_L1 k (bs L) (m + 1) (q : Int) = if b = true then pimpl_run_on2_pimpl_figure_L1 k (bs L) m ((q + 1 : Nat) : Int) else some (.done (q : Int)) := by
  obtain ⟨h1, h2, h3, h4⟩ := here h
  rw [pimpl_run_on2_pimpl_figure_L1, if_pos (by simpa using h1), if_pos (idx h1), h2, hw, obs, up h1 (by rw [bs_size]; exact hs)]
def FACT : List UInt8 := [102, 97, 99, 116]
theorem run_fact {k : Nat} {L : List UInt8} {q : Nat} {R : List UInt8} (hs : L.length ≤ 3000) (h : L.drop q = 102 :: 97 :: 99 :: 116 :: 40 :: R) : pimpl_run_on2_pimpl_wordByte (k + 20) (bs L) (q : Int) = some ((q + 4 : Nat) : Int) := by
  have h1 := (here h).2.2.1
  have h2 := (here h1).2.2.1
  have h3 := (here h2).2.2.1
  have h4 := (here h3).2.2.1
  unfold pimpl_run_on2_pimpl_wordByte
  rw [show k + 20 = k + 15 + 1 + 1 + 1 + 1 + 1 from rfl, runW hs h (b := true) (by kernel_rfl), if_pos rfl, runW hs h1 (b := true) (by kernel_rfl), if_pos rfl, runW hs h2 (b := true) (by kernel_rfl), if_pos rfl, runW hs h3 (b := true) (by kernel_rfl), if_pos rfl, runW hs h4 (b := false) (by kernel_rfl), if_neg (by decide)]
  rfl
theorem ends_no {k : Nat} {L : List UInt8} {q : Nat} {x : UInt8} {R : List UInt8} (h : L.drop q = x :: R) (hx : (x.toNat : Int) ≠ 46) : pimpl_endsHere k (bs L) (q : Int) = some false := by
  obtain ⟨h1, h2, _⟩ := here h
  unfold pimpl_endsHere
  rw [if_pos (idx h1), h2, if_pos (by simpa using hx)]
theorem J1_ok {k : Nat} {L : List UInt8} {q : Nat} (l : List UInt8) {R : List UInt8} (h : L.drop q = l ++ R) (hl : l.length ≤ 20) (h0 : 0 < l.length) {a : Int} (ha : a = 1 ∨ a = 4) : pimpl_nextSign_J1 k (q : Int) (bs L) ((q + l.length : Nat) : Int) (.mk a (bs []) 0 (q : Int) false) = some (.mk a (bs l) 0 (q : Int) false, ((q + l.length : Nat) : Int)) := by
  have e : (bs L).extract ((q : Int)).toNat (((q + l.length : Nat) : Int)).toNat = bs l := by
    rw [Int.toNat_natCast, Int.toNat_natCast, ext_bs, h, show q + l.length - q = l.length by omega, List.take_left]
  have hb : q + l.length ≤ (bs L).size := by
    rw [bs_size]
    have := congrArg List.length h
    rw [List.length_drop, List.length_append] at this
    omega
  unfold pimpl_nextSign_J1
  rw [if_pos ⟨by omega, by omega, by omega⟩, e]
  rcases ha with rfl | rfl
  · rw [if_neg (by simp), if_pos (by rfl), if_neg (by rw [bs_size]; simp; omega)]
  · rw [if_neg (by simp), if_neg (by simp)]
theorem ns_fact {k : Nat} {L : List UInt8} {q : Nat} {R : List UInt8} (hs : L.length ≤ 3000) (h : L.drop q = 102 :: 97 :: 99 :: 116 :: 40 :: R) : pimpl_nextSign (k + 20) (bs L) (q : Int) = some (.mk 1 (bs FACT) 0 (q : Int) false, ((q + 4 : Nat) : Int)) := by
  obtain ⟨h1, h2, _⟩ := here h
  unfold pimpl_nextSign
  rw [if_pos (idx h1), ends_no h (by decide), obs, if_neg (by decide), h2, show pimpl_lower (k + 20) (((102 : UInt8).toNat : Nat) : Int) = some true from rfl, obs, if_pos rfl]
  unfold pimpl_nextSign_J2
  rw [if_pos rfl, run_fact hs h, obs, h2, show pimpl_lower (k + 20) (((102 : UInt8).toNat : Nat) : Int) = some true from rfl, obs, if_pos rfl]
  exact J1_ok FACT h (by decide) (by decide) (.inl rfl)
theorem ns_mark {k : Nat} {L : List UInt8} {q : Nat} {x : UInt8} {R : List UInt8} (hs : L.length ≤ 3000) (h : L.drop q = x :: R) (hx : x = 40 ∨ x = 41) : pimpl_nextSign (k + 20) (bs L) (q : Int) = some (.mk 4 (bs [x]) 0 (q : Int) false, ((q + 1 : Nat) : Int)) := by
  obtain ⟨h1, h2, _⟩ := here h
  have hn : (x.toNat : Int) ≠ 46 := by rcases hx with rfl | rfl <;> decide
  have e1 : pimpl_lower (k + 20) (x.toNat : Int) = some false := by rcases hx with rfl | rfl <;> rfl
  have e2 : pimpl_upper (k + 20) (x.toNat : Int) = some false := by rcases hx with rfl | rfl <;> rfl
  have e3 : pimpl_figure (k + 20) (x.toNat : Int) = some false := by rcases hx with rfl | rfl <;> rfl
  have e4 : pimpl_SymbolByte (k + 20) (x.toNat : Int) = some false := by rcases hx with rfl | rfl <;> kernel_rfl
  have e5 : ((x.toNat : Int) == 95) = false := by rcases hx with rfl | rfl <;> rfl
  have e6 : ((x.toNat : Int) == 33) = false := by rcases hx with rfl | rfl <;> rfl
  have e7 : ((x.toNat : Int) == 59) = false := by rcases hx with rfl | rfl <;> rfl
  have e8 : ∃ i, pstrings_IndexByte (k + 20) (bs [40, 41, 91, 93, 44, 124]) (x.toNat : Int) = some i ∧ 0 ≤ i := by
    rcases hx with rfl | rfl
    · exact ⟨0, by kernel_rfl, by decide⟩
    · exact ⟨1, by kernel_rfl, by decide⟩
  obtain ⟨i, e8, e9⟩ := e8
  unfold pimpl_nextSign
  rw [if_pos (idx h1), ends_no h hn, obs, if_neg (by decide), h2, e1, obs, if_neg (by decide), e2, obs, if_neg (by decide), e5]
  unfold pimpl_nextSign_J2
  rw [if_neg (by decide), h2, e3, obs, if_neg (by decide), e4, obs, if_neg (by decide), e6, if_neg (by decide), e7]
  unfold pimpl_nextSign_J4
  rw [if_neg (by decide), h2, e8, obs, if_pos (by simpa using e9), up h1 (by rw [bs_size]; exact hs)]
  exact J1_ok [x] h (by simp) (by simp) (.inr rfl)
theorem ns_end {k : Nat} {L : List UInt8} {q : Nat} {R R' : List UInt8} (hs : L.length ≤ 3000) (h0 : L.drop q = 41 :: R') (h : L.drop (q + 1) = 46 :: 10 :: R) : pimpl_nextSign (k + 20) (bs L) ((q + 1 : Nat) : Int) = some (.mk 5 (bs [46]) 0 ((q + 1 : Nat) : Int) false, ((q + 2 : Nat) : Int)) := by
  obtain ⟨h1, h2, h3, _⟩ := here h
  obtain ⟨h4, h5, _⟩ := here h0
  obtain ⟨h6, h7, _⟩ := here h3
  have hz := bs_size L
  have w1 : wr.i64 (((q + 1 : Nat) : Int) - 1) = (q : Int) := by rw [wr_i64 (by omega) (by omega)]; omega
  have w2 : wr.i64 (((q + 1 : Nat) : Int) + 1) = ((q + 2 : Nat) : Int) := by rw [wr_i64 (by omega) (by omega)]; omega
  have e : pimpl_endsHere (k + 20) (bs L) ((q + 1 : Nat) : Int) = some true := by
    unfold pimpl_endsHere
    rw [if_pos (idx h1), h2, if_neg (by decide), if_pos (by simp), w1, if_pos (idx h4), h5, show pimpl_SymbolByte (k + 20) (((41 : UInt8).toNat : Nat) : Int) = some false by kernel_rfl, obs, if_neg (by decide)]
    unfold pimpl_endsHere_J1
    rw [w2, if_neg (by simp; omega), if_pos (idx h6), h7, show pstrings_IndexByte (k + 20) (bs [32, 9, 10, 37]) (((10 : UInt8).toNat : Nat) : Int) = some 2 by kernel_rfl]
    rfl
  unfold pimpl_nextSign
  rw [if_pos (idx h1), e, obs, if_pos rfl, w2]
/-- A figure. -/
def fg (d : Nat) : UInt8 := UInt8.ofNat (48 + d)
theorem fg_nat : ∀ d < 10, (fg d).toNat = 48 + d := by decide
theorem fg_fig {k d : Nat} (h : d < 10) : pimpl_figure k ((fg d).toNat : Int) = some true := by
  rw [fg_nat d h]
  unfold pimpl_figure
  rw [if_pos (by simp; omega)]
  simp
  omega
theorem wr_u8d {x : Int} (h1 : 0 ≤ x) (h2 : x ≤ 255) : wr.u8 x = x := by
  unfold wr.u8 IntKind.wrap
  simp [IntKind.signed, IntKind.bits]
  omega
theorem L3_step {k : Nat} {L : List UInt8} {q e : Nat} {d : Nat} {R : List UInt8} (hs : L.length ≤ 3000) (h : L.drop q = fg d :: R) (hd : d < 10) (he : q < e) {v : Nat} (hv : v ≤ 1000) (m : Nat) :
    pimpl_nextSign_L3 k (e : Int) (bs L) (m + 1) (v : Int) (q : Int) = pimpl_nextSign_L3 k (e : Int) (bs L) m ((10 * v + d : Nat) : Int) ((q + 1 : Nat) : Int) := by
  obtain ⟨h1, h2, _⟩ := here h
  have hz := bs_size L
  rw [pimpl_nextSign_L3, if_pos (by simp; omega), if_pos (by simp; omega), if_pos (idx h1), h2, fg_nat d hd, wr_u8d (by omega) (by omega), wr_i64 (x := 10 * (v : Int)) (by omega) (by omega), wr_i64 (x := ((48 + d : Nat) : Int) - 48) (by omega) (by omega), wr_i64 (x := 10 * (v : Int) + _) (by omega) (by omega), up h1 (by omega)]
  congr 1
  omega
theorem L3_done {k : Nat} {L : List UInt8} {e : Nat} {v : Int} (m : Nat) : pimpl_nextSign_L3 k (e : Int) (bs L) (m + 1) v (e : Int) = some (.done v) := by
  rw [pimpl_nextSign_L3, if_neg (by simp)]
/-- A number's figures. -/
def dg (v : Nat) : List UInt8 := if v < 10 then [fg v] else [fg (v / 10), fg (v % 10)]
theorem ns_num {k : Nat} {L : List UInt8} {q v : Nat} {R : List UInt8} (hs : L.length ≤ 3000) (hv : v < 100) (h : L.drop q = dg v ++ 41 :: R) : pimpl_nextSign (k + 20) (bs L) (q : Int) = some (.mk 3 (bs []) (v : Int) (q : Int) false, ((q + (dg v).length : Nat) : Int)) := by
  obtain ⟨d, R1, hd, hR⟩ : ∃ d R1, d < 10 ∧ dg v ++ 41 :: R = fg d :: R1 := by
    unfold dg
    split
    · exact ⟨v, _, by omega, rfl⟩
    · exact ⟨v / 10, _, by omega, rfl⟩
  have hf := h
  rw [hR] at hf
  obtain ⟨h1, h2, _⟩ := here hf
  have hn := fg_nat d hd
  have run : pimpl_run_on2_pimpl_figure (k + 20) (bs L) (q : Int) = some ((q + (dg v).length : Nat) : Int) ∧ pimpl_nextSign_L3 (k + 20) ((q + (dg v).length : Nat) : Int) (bs L) (k + 20) 0 (q : Int) = some (.done (v : Int)) := by
    unfold pimpl_run_on2_pimpl_figure dg
    unfold dg at h
    by_cases c : v < 10
    · rw [if_pos c] at h ⊢
      have h3 := (here (x := fg v) h).2.2.1
      have g0 : ((0 : Nat) : Int) = 0 := rfl
      rw [show k + 20 = k + 18 + 1 + 1 from rfl, runF hs h (fg_fig c), if_pos rfl, runF hs h3 (b := false) (by rfl), if_neg (by decide)]
      refine ⟨rfl, ?_⟩
      have e := L3_step (k := k + 18 + 1 + 1) hs h c (show q < q + 1 by omega) (v := 0) (by omega) (k + 18 + 1)
      rw [g0] at e
      refine e.trans ?_
      rw [show q + 1 = q + 1 from rfl, L3_done]
      simp
    · rw [if_neg c] at h ⊢
      have h3 := (here (x := fg (v / 10)) h).2.2.1
      have h4 := (here (x := fg (v % 10)) h3).2.2.1
      have g0 : ((0 : Nat) : Int) = 0 := rfl
      rw [show k + 20 = k + 17 + 1 + 1 + 1 from rfl, runF hs h (fg_fig (by omega)), if_pos rfl, runF hs h3 (fg_fig (by omega)), if_pos rfl, runF hs h4 (b := false) (by rfl), if_neg (by decide)]
      refine ⟨rfl, ?_⟩
      have e := L3_step (k := k + 17 + 1 + 1 + 1) hs h (by omega) (show q < q + 2 by omega) (v := 0) (by omega) (k + 17 + 1 + 1)
      rw [g0] at e
      refine e.trans ?_
      have e := L3_step (k := k + 17 + 1 + 1 + 1) hs h3 (by omega) (show q + 1 < q + 2 by omega) (v := 10 * 0 + v / 10) (by omega) (k + 17 + 1)
      refine e.trans ?_
      rw [show q + 1 + 1 = q + 2 from rfl, L3_done]
      congr 2
      omega
  obtain ⟨r1, r2⟩ := run
  unfold pimpl_nextSign
  rw [if_pos (idx h1), ends_no hf (by rw [hn]; omega), obs, if_neg (by decide), h2]
  have e1 : pimpl_lower (k + 20) ((fg d).toNat : Int) = some false := by
    rw [hn]; unfold pimpl_lower; rw [if_neg (by simp; omega)]
  have e2 : pimpl_upper (k + 20) ((fg d).toNat : Int) = some false := by
    rw [hn]; unfold pimpl_upper; rw [if_neg (by simp; omega)]
  rw [e1, obs, if_neg (by decide), e2, obs, if_neg (by decide), show (((fg d).toNat : Int) == 95) = false by rw [hn, beq_eq_false_iff_ne]; omega]
  unfold pimpl_nextSign_J2
  rw [if_neg (by decide), h2, fg_fig hd, obs, if_pos rfl, r1, obs, r2, obs]
  show (if decide ((v : Int) ≤ 999999999) = true then _ else _) = _
  rw [if_pos (by simp; omega)]
/-- One clause, as it is written, and what is read of it. -/
def ch (v : Nat) : List UInt8 := FACT ++ (40 :: (dg v ++ [41, 46, 10]))
def toks (v p : Nat) : List GSign :=
  [.mk 1 (bs FACT) 0 (p : Int) true, .mk 4 (bs [40]) 0 ((p + 4 : Nat) : Int) false, .mk 3 (bs []) (v : Int) ((p + 5 : Nat) : Int) false, .mk 4 (bs [41]) 0 ((p + 5 + (dg v).length : Nat) : Int) false, .mk 5 (bs [46]) 0 ((p + 6 + (dg v).length : Nat) : Int) false]
def chs : List Nat → List UInt8
  | [] => []
  | v :: vs => ch v ++ chs vs
def tkL : List Nat → Nat → List GSign
  | [], _ => []
  | v :: vs, p => toks v p ++ tkL vs (p + (ch v).length)
theorem dg_len (v : Nat) : (dg v).length = 1 ∨ (dg v).length = 2 := by
  unfold dg
  split
  · exact .inl rfl
  · exact .inr rfl
theorem ch_len (v : Nat) : (ch v).length = 8 + (dg v).length := by
  unfold ch FACT
  simp
  omega
/-- One sign more. -/
theorem sg_step {k : Nat} {L : List UInt8} {q e : Nat} {x y : UInt8} {R R' : List UInt8} (hs : L.length ≤ 3000) (h : L.drop q = x :: R) (h2 : L.drop e = y :: R') {a : Int} {t : ByteArray} {nu : Int} (hx : x ≠ 32 ∧ x ≠ 9 ∧ x ≠ 10 ∧ x ≠ 37)
    (hn : pimpl_nextSign (k + 20) (bs L) (q : Int) = some (.mk a t nu (q : Int) false, (e : Int))) {w : List GSign} (hw : w.length ≤ 1000) (m : Nat) :
    pimpl_SignsOf_L1 (k + 20) (bs L) (m + 1) w (q : Int) = pimpl_SignsOf_L1 (k + 20) (bs L) m (w ++ [.mk a t nu (q : Int) ((y.toNat : Int) == 40)]) (e : Int) := by
  obtain ⟨h1, h3, _⟩ := here h
  obtain ⟨h4, h5, _⟩ := here h2
  have nn : ∀ z : UInt8, x ≠ z → ((x.toNat : Int) == (z.toNat : Int)) = false := fun z hz => by
    rw [beq_eq_false_iff_ne]
    intro c
    exact hz (UInt8.toNat_inj.1 (by omega))
  have J : ∀ d : Bool, d = false → pimpl_SignsOf_J2 (k + 20) (pimpl_SignsOf_L1 (k + 20) (bs L) m) w (q : Int) (bs L) d = pimpl_SignsOf_L1 (k + 20) (bs L) m (w ++ [.mk a t nu (q : Int) ((y.toNat : Int) == 40)]) (e : Int) := by
    intro d hd
    subst hd
    unfold pimpl_SignsOf_J2
    rw [if_neg (by decide), h3, show (37 : Int) = (((37 : UInt8).toNat : Nat) : Int) from rfl, nn 37 hx.2.2.2, if_neg (by decide), hn, obs]
    dsimp only
    rw [if_pos (by simp; omega), if_pos (idx h4), h5, if_pos (by simp; omega)]
  rw [pimpl_SignsOf_L1, if_pos (by simp; omega), if_pos (idx h1), h3, show (32 : Int) = (((32 : UInt8).toNat : Nat) : Int) from rfl, nn 32 hx.1, if_neg (by decide), show (9 : Int) = (((9 : UInt8).toNat : Nat) : Int) from rfl, nn 9 hx.2.1, if_neg (by decide), show (10 : Int) = (((10 : UInt8).toNat : Nat) : Int) from rfl, nn 10 hx.2.2.1]
  exact J false rfl
/-- The line's end. -/
theorem sg_nl {k : Nat} {L : List UInt8} {q : Nat} {R : List UInt8} (hs : L.length ≤ 3000) (h : L.drop q = 10 :: R) {w : List GSign} (m : Nat) : pimpl_SignsOf_L1 (k + 20) (bs L) (m + 1) w (q : Int) = pimpl_SignsOf_L1 (k + 20) (bs L) m w ((q + 1 : Nat) : Int) := by
  obtain ⟨h1, h3, _⟩ := here h
  rw [pimpl_SignsOf_L1, if_pos (by simp; omega), if_pos (idx h1), h3, if_neg (by decide), if_neg (by decide)]
  unfold pimpl_SignsOf_J2
  rw [if_pos (by decide), up h1 (by rw [bs_size]; exact hs)]
theorem drop_add {L : List UInt8} {q : Nat} {l R : List UInt8} (h : L.drop q = l ++ R) : L.drop (q + l.length) = R := by
  rw [← List.drop_drop, h, List.drop_left]
theorem sg_chunk {k : Nat} {L : List UInt8} {p v : Nat} {R : List UInt8} (hs : L.length ≤ 3000) (hv : v < 100) (h : L.drop p = ch v ++ R) {w : List GSign} (hw : w.length ≤ 900) (m : Nat) :
    pimpl_SignsOf_L1 (k + 20) (bs L) (m + 6) w (p : Int) = pimpl_SignsOf_L1 (k + 20) (bs L) m (w ++ toks v p) ((p + (ch v).length : Nat) : Int) := by
  have h0 : L.drop p = 102 :: 97 :: 99 :: 116 :: 40 :: (dg v ++ 41 :: 46 :: 10 :: R) := by rw [h]; unfold ch FACT; simp
  have h4 : L.drop (p + 4) = 40 :: (dg v ++ 41 :: 46 :: 10 :: R) := drop_add (l := [102, 97, 99, 116]) h0
  have h5 : L.drop (p + 5) = dg v ++ 41 :: 46 :: 10 :: R := drop_add (l := [102, 97, 99, 116, 40]) h0
  have h6 : L.drop (p + 5 + (dg v).length) = 41 :: 46 :: 10 :: R := drop_add h5
  have h7 : L.drop (p + 5 + (dg v).length + 1) = 46 :: 10 :: R := (here h6).2.2.1
  have h8 : L.drop (p + 5 + (dg v).length + 1 + 1) = 10 :: R := (here h7).2.2.1
  obtain ⟨d, R1, hd, hR⟩ : ∃ d R1, d < 10 ∧ dg v ++ 41 :: 46 :: 10 :: R = fg d :: R1 := by
    unfold dg
    split
    · exact ⟨v, _, by omega, rfl⟩
    · exact ⟨v / 10, _, by omega, rfl⟩
  have h5' := h5
  rw [hR] at h5'
  have hf := fg_nat d hd
  have hfn : fg d ≠ 32 ∧ fg d ≠ 9 ∧ fg d ≠ 10 ∧ fg d ≠ 37 := by
    refine ⟨?_, ?_, ?_, ?_⟩ <;> intro c <;> rw [c] at hf <;> simp at hf <;> omega
  have e0 : (((fg d).toNat : Int) == 40) = false := by rw [beq_eq_false_iff_ne]; omega
  rw [show m + 6 = m + 1 + 1 + 1 + 1 + 1 + 1 from rfl,
    sg_step hs h0 h4 (by decide) (ns_fact hs h0) (by omega),
    sg_step hs h4 h5' (by decide) (ns_mark hs h4 (.inl rfl)) (by simp; omega),
    sg_step hs h5' h6 hfn (ns_num hs hv h5) (by simp; omega),
    sg_step hs h6 h7 (by decide) (ns_mark hs h6 (.inr rfl)) (by simp; omega),
    sg_step hs h7 h8 (by decide) (ns_end hs h6 h7) (by simp; omega), e0]
  rw [show p + 5 + (dg v).length + 2 = p + 5 + (dg v).length + 1 + 1 from rfl, sg_nl hs h8, ch_len]
  have e : w ++ [GSign.mk 1 (bs FACT) 0 (p : Int) ((((40 : UInt8).toNat : Nat) : Int) == 40)] ++ [.mk 4 (bs [40]) 0 ((p + 4 : Nat) : Int) false] ++ [.mk 3 (bs []) (v : Int) ((p + 5 : Nat) : Int) ((((41 : UInt8).toNat : Nat) : Int) == 40)] ++ [.mk 4 (bs [41]) 0 ((p + 5 + (dg v).length : Nat) : Int) ((((46 : UInt8).toNat : Nat) : Int) == 40)] ++ [.mk 5 (bs [46]) 0 ((p + 5 + (dg v).length + 1 : Nat) : Int) ((((10 : UInt8).toNat : Nat) : Int) == 40)] = w ++ toks v p := by
    unfold toks
    simp only [List.append_assoc, List.singleton_append]
    rw [show p + 5 + (dg v).length + 1 = p + 6 + (dg v).length by omega]
    rfl
  rw [e, show p + 5 + (dg v).length + 1 + 1 + 1 = p + (8 + (dg v).length) by omega]
theorem sg_all {k : Nat} {L : List UInt8} (hs : L.length ≤ 3000) : ∀ (vs : List Nat) (p : Nat) (w : List GSign) (m : Nat), (∀ v ∈ vs, v < 100) → L.drop p = chs vs → w.length + 5 * vs.length ≤ 900 → pimpl_SignsOf_L1 (k + 20) (bs L) (m + 6 * vs.length + 1) w (p : Int) = some (.done (w ++ tkL vs p))
  | [], p, w, m, _, h, _ => by
    have : L.length ≤ p := List.drop_eq_nil_iff.1 h
    rw [pimpl_SignsOf_L1, if_neg (by rw [bs_size]; simp; omega)]
    simp [tkL]
  | v :: vs, p, w, m, hv, h, hw => by
    rw [chs] at h
    rw [List.length_cons] at hw
    rw [show m + 6 * (v :: vs).length + 1 = m + 6 * vs.length + 1 + 6 by rw [List.length_cons]; omega, sg_chunk hs (hv v (List.mem_cons_self ..)) h (by omega), sg_all hs vs _ _ m (fun w hw => hv w (List.mem_cons_of_mem _ hw)) (drop_add h) (by rw [List.length_append]; simp [toks]; omega), tkL, List.append_assoc]
theorem chs_len : ∀ (vs : List Nat), (chs vs).length ≤ 10 * vs.length
  | [] => by simp [chs]
  | v :: vs => by
    have := chs_len vs
    have h1 := ch_len v
    have h2 := dg_len v
    rw [chs, List.length_append, List.length_cons]
    omega
theorem signsOf {n : Nat} {vs : List Nat} (hv : ∀ v ∈ vs, v < 100) (hl : vs.length ≤ 5) : pimpl_SignsOf (n + 100) (bs (chs vs)) = some (tkL vs 0, true) := by
  have h := chs_len vs
  unfold pimpl_SignsOf
  rw [if_neg (by rw [bs_size]; simp; omega)]
  have e := sg_all (k := n + 80) (L := chs vs) (by omega) vs 0 [] (n + 99 - 6 * vs.length) hv rfl (by simp; omega)
  rw [show n + 99 - 6 * vs.length + 6 * vs.length + 1 = n + 100 by omega, show n + 80 + 20 = n + 100 from rfl, show ((0 : Nat) : Int) = 0 from rfl] at e
  rw [e]
  rfl
/-- The fact that a line tells. -/
def T (v : Nat) : GTerm := .mk 4 (bs FACT) 0 [.mk 3 (bs []) (v : Int) []]
def TRUE : GTerm := .mk 2 (bs [116, 114, 117, 101]) 0 []
def C (v : Nat) : GClause := .mk (T v) TRUE FACTS
def F1 : ByteArray := bs [102, 97, 99, 116, 47, 49]
theorem all100 {α : Type} {f g : Nat → α} (h : (List.range 100).map f = (List.range 100).map g) : ∀ v < 100, f v = g v := fun v hv => List.map_inj_left.1 h v (List.mem_range.2 hv)
theorem tok (n : Nat) : ∀ v < 100, pimpl_TermOk (n + 100) (T v) = some true := all100 (g := fun _ => some true) (by kernel_rfl)
theorem tok_true (n : Nat) : pimpl_TermOk (n + 100) TRUE = some true := by kernel_rfl
theorem cpT (n v : Nat) : pimpl_copyTerm (n + 100) (T v) = some (T v) := by kernel_rfl
theorem cpC (n v : Nat) : pimpl_copyClause (n + 100) (C v) = some (C v) := by kernel_rfl
theorem cpTd (n v : Nat) : pimpl_copyTerm_d (n + 100) (T v) = some (T v) := by kernel_rfl
theorem cpCd (n v : Nat) : pimpl_copyClause_d (n + 100) (C v) = some (C v) := by kernel_rfl
theorem itoa1 : (⟨(Lib.itoa 1).toArray⟩ : ByteArray) = bs [49] := by
  have : Lib.itoa 1 = [49] := by
    unfold Lib.itoa
    simp [Lib.decDigits]
  rw [this]
  rfl
theorem pred (n v : Nat) : pimpl_PredOf (n + 100) (T v) = some F1 := by
  unfold pimpl_PredOf pimpl_PredOf_J1 pimpl_Decimal pstrconv_Itoa
  rw [show ((T v).gKids.length : Int) = 1 from rfl, itoa1]
  kernel_rfl
theorem predS (n v : Nat) : pspec_PredOf (n + 100) (T v) = some F1 := by kernel_rfl
theorem headOk (n v : Nat) : pimpl_headOk (n + 100) (T v) = some true := by
  unfold pimpl_headOk
  rw [pred, obs, if_pos (show (!(sEq F1 (bs []))) = true by kernel_rfl), obs, show pimpl_Control (n + 100) F1 = some false by kernel_rfl]
  rfl
theorem clauseOf (n : Nat) {v : Nat} (hv : v < 100) : pimpl_ClauseOf (n + 100) (T v) FACTS = some (C v, true) := by
  unfold pimpl_ClauseOf
  rw [tok n v hv, obs, if_neg (by decide), show pimpl_atom (n + 100) (bs [116, 114, 117, 101]) = some TRUE from rfl, obs, show pimpl_isStruct (n + 100) (T v) (bs [58, 45]) 2 = some false by kernel_rfl, obs, if_neg (by decide), headOk, obs, if_neg (by decide), tok_true, obs, if_neg (by decide), show GClause.mk (T v) TRUE FACTS = C v from rfl, cpC, obs]
def db (vs : List Nat) : GDb := .mk (vs.map C) []
theorem db_len (vs : List Nat) : (db vs).gClauses.length = vs.length := by unfold db; simp
theorem db_at {vs : List Nat} {j : Nat} (h : j < vs.length) : at' (db vs).gClauses (j : Int) = some (C vs[j]) := by
  rw [at_lt (by rw [db_len]; exact h)]
  unfold db
  simp
theorem up2 {j l : Nat} (h : j < l) (hl : l ≤ 1000) : wr.i64 ((j : Int) + 1) = ((j + 1 : Nat) : Int) := by rw [wr_i64 (by omega) (by omega)]; omega
theorem copyCl_L1 (n : Nat) {vs : List Nat} (hl : vs.length ≤ 50) : ∀ (m j : Nat), j ≤ vs.length → vs.length - j < m → pimpl_copyClauses_L1 (n + 100) (db vs).gClauses m ((db vs).gClauses.take j) (j : Int) = some (.done (db vs).gClauses)
  | 0, j, h1, h2 => by omega
  | m + 1, j, h1, h2 => by
    have hd := db_len vs
    unfold pimpl_copyClauses_L1
    by_cases hlt : j < vs.length
    · have e : (db vs).gClauses.take j ++ [C vs[j]] = (db vs).gClauses.take (j + 1) := by
        rw [List.take_succ_eq_append_getElem (by omega)]
        congr 2
        unfold db
        simp
      rw [if_pos (by rw [hd]; simpa using hlt), db_at hlt, obs, cpC, obs, if_pos (by simp; omega), up2 hlt (by omega), e]
      exact copyCl_L1 n hl m (j + 1) (by omega) (by omega)
    · rw [if_neg (by rw [hd]; simpa using hlt), List.take_of_length_le (by omega)]
theorem copyCl (n : Nat) {vs : List Nat} (hl : vs.length ≤ 50) : pimpl_copyClauses (n + 100) (db vs).gClauses = some (db vs).gClauses := by
  unfold pimpl_copyClauses
  have e := copyCl_L1 n hl (n + 100) 0 (by omega) (by omega)
  rw [show ((0 : Nat) : Int) = 0 from rfl, List.take_zero] at e
  rw [e]
  rfl
theorem copyDb (n : Nat) {vs : List Nat} (hl : vs.length ≤ 50) : pimpl_copyDb (n + 100) (db vs) = some (db vs) := by
  unfold pimpl_copyDb
  rw [copyCl n hl, obs, if_pos (by unfold db; simp)]
theorem copyCld_L1 (n : Nat) {vs : List Nat} (hl : vs.length ≤ 50) : ∀ (m j : Nat), j ≤ vs.length → vs.length - j < m → pimpl_copyClauses_d_L1 (n + 100) (db vs).gClauses m ((db vs).gClauses.take j) (j : Int) = some (.done (db vs).gClauses)
  | 0, j, h1, h2 => by omega
  | m + 1, j, h1, h2 => by
    have hd := db_len vs
    unfold pimpl_copyClauses_d_L1
    by_cases hlt : j < vs.length
    · have e : (db vs).gClauses.take j ++ [C vs[j]] = (db vs).gClauses.take (j + 1) := by
        rw [List.take_succ_eq_append_getElem (by omega)]
        congr 2
        unfold db
        simp
      rw [if_pos (by rw [hd]; simpa using hlt), db_at hlt, obs, cpCd, obs, if_pos (by simp; omega), up2 hlt (by omega), e]
      exact copyCld_L1 n hl m (j + 1) (by omega) (by omega)
    · rw [if_neg (by rw [hd]; simpa using hlt), List.take_of_length_le (by omega)]
theorem copyDbd (n : Nat) {vs : List Nat} (hl : vs.length ≤ 50) : pimpl_copyDb_d (n + 100) (db vs) = some (db vs) := by
  unfold pimpl_copyDb_d pimpl_copyClauses_d
  have e := copyCld_L1 n hl (n + 100) 0 (by omega) (by omega)
  rw [show ((0 : Nat) : Int) = 0 from rfl, List.take_zero] at e
  rw [e, obs, obs, if_pos (by unfold db; simp)]
theorem dbOk_L1 (n : Nat) {vs : List Nat} (hv : ∀ v ∈ vs, v < 100) (hl : vs.length ≤ 50) : ∀ (m j : Nat), j ≤ vs.length → vs.length - j < m → pimpl_DbOk_L1 (n + 100) (db vs) m (j : Int) = some (.done ())
  | 0, j, h1, h2 => by omega
  | m + 1, j, h1, h2 => by
    have hd := db_len vs
    unfold pimpl_DbOk_L1
    by_cases hlt : j < vs.length
    · have h100 := hv _ (List.getElem_mem hlt)
      rw [if_pos (by rw [hd]; simpa using hlt), db_at hlt, obs, show (C vs[j]).gHead = T vs[j] from rfl, show (C vs[j]).gBody = TRUE from rfl, tok n _ h100, obs, if_neg (by decide), tok_true, obs, if_neg (by decide), headOk, obs, if_neg (by decide), up2 hlt (by omega)]
      exact dbOk_L1 n hv hl m (j + 1) (by omega) (by omega)
    · rw [if_neg (by rw [hd]; simpa using hlt)]
theorem dbOk (n : Nat) {vs : List Nat} (hv : ∀ v ∈ vs, v < 100) (hl : vs.length ≤ 50) : pimpl_DbOk (n + 100) (db vs) = some true := by
  unfold pimpl_DbOk
  have e := dbOk_L1 n hv hl (n + 100) 0 (by omega) (by omega)
  rw [show ((0 : Nat) : Int) = 0 from rfl] at e
  rw [e, obs]
  show (if decide (((db vs).gClauses.length : Int) ≤ 120) = true then _ else _) = _
  rw [db_len, if_pos (by simp; omega)]
  rfl
theorem added (n : Nat) {vs : List Nat} {v : Nat} (hv : ∀ w ∈ vs ++ [v], w < 100) (hl : vs.length ≤ 20) : pimpl_Added (n + 100) (db vs) (C v) = some (db (vs ++ [v]), true) := by
  have e : GDb.mk ((db vs).gClauses ++ [C v]) (db vs).gOpen = db (vs ++ [v]) := by unfold db; simp
  unfold pimpl_Added
  rw [copyDb n (by omega), obs, cpC, obs, if_pos (by rw [db_len]; simp; omega), e, dbOk n hv (by simp; omega), obs, if_neg (by decide)]
theorem clOf_L1 (n : Nat) {vs : List Nat} (hl : vs.length ≤ 50) : ∀ (m j : Nat), j ≤ vs.length → vs.length - j < m → pimpl_ClausesOf_L1 (n + 100) (db vs) (bs [101, 120, 112, 97, 110, 100, 47, 50]) m (j : Int) = some (.done ())
  | 0, j, h1, h2 => by omega
  | m + 1, j, h1, h2 => by
    have hd := db_len vs
    unfold pimpl_ClausesOf_L1
    by_cases hlt : j < vs.length
    · rw [if_pos (by rw [hd]; simpa using hlt), db_at hlt, obs, show (C vs[j]).gHead = T vs[j] from rfl, pred, obs, if_neg (show ¬ sEq F1 (bs [101, 120, 112, 97, 110, 100, 47, 50]) = true by decide +kernel), up2 hlt (by omega)]
      exact clOf_L1 n hl m (j + 1) (by omega) (by omega)
    · rw [if_neg (by rw [hd]; simpa using hlt)]
theorem expanded (n : Nat) {vs : List Nat} {v : Nat} (hv : v < 100) (hl : vs.length ≤ 50) : pimpl_Expanded (n + 100) (db vs) (T v) = some (T v, true) := by
  unfold pimpl_Expanded pimpl_ClausesOf
  have e := clOf_L1 n hl (n + 100) 0 (by omega) (by omega)
  rw [show ((0 : Nat) : Int) = 0 from rfl] at e
  rw [cpT, obs, e, obs, obs, if_neg (by decide), tok n v hv, obs]
/-- What the loader holds. -/
def ld (vs : List Nat) (fl : List GFile) : GLoader := .mk (.mk (db vs) 0 0 0 0) fl FACTS 0 []
theorem clause (n : Nat) {vs : List Nat} {v : Nat} {fl : List GFile} (hv : ∀ w ∈ vs ++ [v], w < 100) (hl : vs.length ≤ 20) : pimpl_loader_clause (n + 100) (ld vs fl) (T v) = some (ld (vs ++ [v]) fl) := by
  have h100 : v < 100 := hv v (by simp)
  unfold pimpl_loader_clause pimpl_loader_clause_J1 pimpl_loader_clause_J3
  rw [show (ld vs fl).gL.gDb = db vs from rfl, expanded n h100 (by omega), obs, if_pos rfl, show pimpl_isStruct (n + 100) (T v, true).1 (bs [45, 45, 62]) 2 = some false by kernel_rfl, obs, if_neg (by decide), if_pos rfl, show (ld vs fl).gFile = FACTS from rfl, clauseOf n h100, obs, added n hv hl, obs, if_pos rfl, if_pos rfl]
  rfl
theorem sDecimal (n : Nat) : ∀ v : Nat, v < 100 → pspec_Decimal (n + 100) (v : Int) = some (bs (dg v)) := all100 (f := fun v : Nat => pspec_Decimal (n + 100) (v : Int)) (g := fun v => some (bs (dg v))) (by kernel_rfl)
/-- What is parsed at the i-th line. -/
def Pa (n : Nat) (vs : List Nat) (i : Nat) (v : Nat) : Prop :=
  pimpl_parser_term (n + 100) (.mk (tkL vs 0) ((5 * i : Nat) : Int) [] 0 false) 1200 = some (.mk (tkL vs 0) ((5 * i + 4 : Nat) : Int) [] 0 false, T v) ∧
  (pimpl_parser_sign (n + 100) (.mk (tkL vs 0) ((5 * i + 4 : Nat) : Int) [] 0 false) 0).map (fun r => (r.1, r.2.gKind)) = some (.mk (tkL vs 0) ((5 * i + 4 : Nat) : Int) [] 0 false, 5)
theorem pa1 (n a : Nat) : Pa n [a] 0 a := ⟨by kernel_rfl, by kernel_rfl⟩
theorem pa20 (n a b : Nat) : Pa n [a, b] 0 a := ⟨by kernel_rfl, by kernel_rfl⟩
theorem pa21 (n a b : Nat) : Pa n [a, b] 1 b := ⟨by kernel_rfl, by kernel_rfl⟩
theorem pa30 (n a b c : Nat) : Pa n [a, b, c] 0 a := ⟨by kernel_rfl, by kernel_rfl⟩
theorem pa31 (n a b c : Nat) : Pa n [a, b, c] 1 b := ⟨by kernel_rfl, by kernel_rfl⟩
theorem pa32 (n a b c : Nat) : Pa n [a, b, c] 2 c := ⟨by kernel_rfl, by kernel_rfl⟩
theorem pa40 (n a b c d : Nat) : Pa n [a, b, c, d] 0 a := ⟨by kernel_rfl, by kernel_rfl⟩
theorem pa41 (n a b c d : Nat) : Pa n [a, b, c, d] 1 b := ⟨by kernel_rfl, by kernel_rfl⟩
theorem pa42 (n a b c d : Nat) : Pa n [a, b, c, d] 2 c := ⟨by kernel_rfl, by kernel_rfl⟩
theorem pa43 (n a b c d : Nat) : Pa n [a, b, c, d] 3 d := ⟨by kernel_rfl, by kernel_rfl⟩
theorem pa50 (n a b c d e : Nat) : Pa n [a, b, c, d, e] 0 a := ⟨by kernel_rfl, by kernel_rfl⟩
theorem pa51 (n a b c d e : Nat) : Pa n [a, b, c, d, e] 1 b := ⟨by kernel_rfl, by kernel_rfl⟩
theorem pa52 (n a b c d e : Nat) : Pa n [a, b, c, d, e] 2 c := ⟨by kernel_rfl, by kernel_rfl⟩
theorem pa53 (n a b c d e : Nat) : Pa n [a, b, c, d, e] 3 d := ⟨by kernel_rfl, by kernel_rfl⟩
theorem pa54 (n a b c d e : Nat) : Pa n [a, b, c, d, e] 4 e := ⟨by kernel_rfl, by kernel_rfl⟩
theorem paAll (n : Nat) : ∀ (vs : List Nat) (i : Nat) (h : i < vs.length), vs.length ≤ 5 → Pa n vs i vs[i]
  | [a], 0, _, _ => pa1 n a
  | [a, b], 0, _, _ => pa20 n a b
  | [a, b], 1, _, _ => pa21 n a b
  | [a, b, c], 0, _, _ => pa30 n a b c
  | [a, b, c], 1, _, _ => pa31 n a b c
  | [a, b, c], 2, _, _ => pa32 n a b c
  | [a, b, c, d], 0, _, _ => pa40 n a b c d
  | [a, b, c, d], 1, _, _ => pa41 n a b c d
  | [a, b, c, d], 2, _, _ => pa42 n a b c d
  | [a, b, c, d], 3, _, _ => pa43 n a b c d
  | [a, b, c, d, e], 0, _, _ => pa50 n a b c d e
  | [a, b, c, d, e], 1, _, _ => pa51 n a b c d e
  | [a, b, c, d, e], 2, _, _ => pa52 n a b c d e
  | [a, b, c, d, e], 3, _, _ => pa53 n a b c d e
  | [a, b, c, d, e], 4, _, _ => pa54 n a b c d e
  | [], i, h, _ => absurd h (Nat.not_lt_zero _)
  | [a], i + 1, h, _ => absurd h (by simp)
  | [a, b], i + 2, h, _ => absurd h (by simp)
  | [a, b, c], i + 3, h, _ => absurd h (by simp)
  | [a, b, c, d], i + 4, h, _ => absurd h (by simp)
  | [a, b, c, d, e], i + 5, h, _ => absurd h (by simp)
  | a :: b :: c :: d :: e :: f :: l, i, h, h2 => absurd h2 (by simp)
theorem tkL_len : ∀ (vs : List Nat) (p : Nat), (tkL vs p).length = 5 * vs.length
  | [], p => rfl
  | v :: vs, p => by
    rw [tkL, List.length_append, tkL_len vs, List.length_cons]
    simp [toks]
    omega
theorem readSigns (n : Nat) {vs : List Nat} {i : Nat} (h : i < vs.length) (hl : vs.length ≤ 5) (hv : ∀ v ∈ vs, v < 100) : pimpl_ReadSigns (n + 100) (tkL vs 0) ((5 * i : Nat) : Int) = some (T vs[i], [], ((5 * (i + 1) : Nat) : Int), true) := by
  obtain ⟨h1, h2⟩ := paAll n vs i h hl
  have hlen := tkL_len vs 0
  rw [Option.map_eq_some_iff] at h2
  obtain ⟨⟨y, s⟩, h3, h4⟩ := h2
  have e1 : y = .mk (tkL vs 0) ((5 * i + 4 : Nat) : Int) [] 0 false := (Prod.mk.inj h4).1
  have e2 : s.gKind = 5 := (Prod.mk.inj h4).2
  subst e1
  unfold pimpl_ReadSigns
  rw [within, obs, wr_i64 (by omega) (by omega), inR_t ⟨by omega, by omega⟩, if_pos rfl, h1, obs, if_pos (by rfl), h3, obs]
  dsimp only
  rw [e2, if_pos (by decide), tok n _ (hv _ (List.getElem_mem h)), obs]
  unfold pimpl_ReadSigns_J3
  rw [if_pos rfl]
  dsimp only
  rw [show wr.i64 (((5 * i + 4 : Nat) : Int) + 1) = ((5 * (i + 1) : Nat) : Int) by rw [wr_i64 (by omega) (by omega)]; omega]
theorem passed (n : Nat) (vs : List Nat) (fl : List GFile) : pimpl_loader_passed (n + 100) (ld vs fl) = some (ld vs fl, false) := by kernel_rfl
theorem cond (n : Nat) (vs : List Nat) (fl : List GFile) (v : Nat) : pimpl_loader_condition (n + 100) (ld vs fl) (T v) = some (ld vs fl, false) := by kernel_rfl
theorem load_L1 (n : Nat) {vs : List Nat} {fl : List GFile} (hl : vs.length ≤ 5) (hv : ∀ v ∈ vs, v < 100) : ∀ (m i : Nat), i ≤ vs.length → vs.length - i < m → pimpl_LoadText_L1 (n + 100) (tkL vs 0, true) m ((5 * i : Nat) : Int) (ld (vs.take i) fl) = some (.done (ld vs fl))
  | 0, i, h1, h2 => by omega
  | m + 1, i, h1, h2 => by
    have hlen := tkL_len vs 0
    unfold pimpl_LoadText_L1
    by_cases hlt : i < vs.length
    · rw [if_pos (by rw [show (tkL vs 0, true).1 = tkL vs 0 from rfl, hlen, decide_eq_true_eq]; omega), show (tkL vs 0, true).1 = tkL vs 0 from rfl, readSigns n hlt hl hv, obs, if_neg (by simp)]
      unfold pimpl_LoadText_J2
      rw [if_neg (by decide), if_neg (by simp), cond, obs, if_neg (by simp), passed, obs]
      unfold pimpl_LoadText_J3
      rw [if_neg (by simp), show pimpl_isStruct (n + 100) (T vs[i], ([] : List ByteArray), ((5 * (i + 1) : Nat) : Int), true).1 (bs [58, 45]) 1 = some false by kernel_rfl, obs, if_neg (by decide)]
      dsimp only
      rw [clause n (by
        intro w hw
        rw [← List.take_succ_eq_append_getElem hlt] at hw
        exact hv w (List.mem_of_mem_take hw)) (by simp; omega), obs, ← List.take_succ_eq_append_getElem hlt]
      exact load_L1 n hl hv m (i + 1) (by omega) (by omega)
    · rw [if_neg (by rw [show (tkL vs 0, true).1 = tkL vs 0 from rfl, hlen, decide_eq_true_eq]; omega), List.take_of_length_le (by omega)]
theorem loadText (n : Nat) {vs : List Nat} {fl : List GFile} (hl : vs.length ≤ 5) (hv : ∀ v ∈ vs, v < 100) : pimpl_LoadText (n + 100) (.mk (db []) 0 0 0 0) fl FACTS (bs (chs vs)) 0 = some (.mk (db vs) 0 0 0 0) := by
  unfold pimpl_LoadText
  rw [show (GLoaded.mk (db []) 0 0 0 0).gDb = db [] from rfl, copyDb n (by simp), obs, signsOf hv hl, obs]
  have e := load_L1 n (fl := fl) hl hv (n + 100) 0 (by omega) (by omega)
  rw [List.take_zero] at e
  have e : pimpl_LoadText_L1 (n + 100) (tkL vs 0, true) (n + 100) 0 (.mk (.mk (db []) 0 0 0 0) fl FACTS 0 []) = some (.done (ld vs fl)) := e
  have e4 : pimpl_LoadText_L4 (n + 100) (ld vs fl) (n + 100) 0 = some (.done ()) := by kernel_rfl
  rw [e, obs]
  show (pimpl_LoadText_L4 (n + 100) (ld vs fl) (n + 100) 0).bind _ = _
  rw [e4]
  rfl
theorem filter_none (n : Nat) : ∀ vs : List Nat, (vs.map C).filter (fun x => !((pimpl_Wiped_1 n x FACTS).getD false)) = []
  | [] => rfl
  | v :: vs => by
    rw [List.map_cons, List.filter_cons, if_neg (by
      have : pimpl_Wiped_1 n (C v) FACTS = some true := by kernel_rfl
      rw [this]; decide), filter_none n vs]
theorem wiped (n : Nat) {vs : List Nat} (hl : vs.length ≤ 50) : pimpl_Wiped_d (n + 100) (db vs) FACTS = some (db []) := by
  unfold pimpl_Wiped_d
  rw [copyDbd n hl, obs]
  unfold pslices_DeleteFunc___impl_Clause_impl_Clause__on1_pimpl_Wiped_1_d
  rw [if_pos (by rw [List.all_eq_true]; intro x hx; rfl), obs, show (db vs).gClauses = vs.map C from rfl, filter_none (n + 100)]
  rfl
theorem consult (n : Nat) {vs ws : List Nat} {fl : List GFile} (hl : vs.length ≤ 5) (hv : ∀ v ∈ vs, v < 100) (hw : ws.length ≤ 50) : pimpl_Consult (n + 100) (db ws) (.mk FACTS (bs (chs vs)) :: fl) FACTS = some (.mk (db vs) 0 0 0 0) := by
  have e : pimpl_FileAt (n + 100) (.mk FACTS (bs (chs vs)) :: fl) FACTS = some (bs (chs vs), true) := by
    unfold pimpl_FileAt
    rw [show n + 100 = n + 99 + 1 from rfl, pimpl_FileAt_L1, if_pos (by simp), show at' (GFile.mk FACTS (bs (chs vs)) :: fl) 0 = some (.mk FACTS (bs (chs vs))) from rfl, obs, if_pos (by simp [sEq_refl]), obs]
  unfold pimpl_Consult
  rw [e, obs, if_neg (by simp), wiped n hw, obs, loadText n hl hv, obs]
/-! what the law asks for -/
theorem cl_L1 (n : Nat) {vs : List Nat} (hl : vs.length ≤ 50) : ∀ (m j : Nat), j ≤ vs.length → vs.length - j < m → pspec_l08ClausesOfRaw_L1 (n + 100) (db vs) F1 m ((db vs).gClauses.take j) (j : Int) = some (.done (db vs).gClauses)
  | 0, j, h1, h2 => by omega
  | m + 1, j, h1, h2 => by
    have hd := db_len vs
    unfold pspec_l08ClausesOfRaw_L1
    by_cases hlt : j < vs.length
    · have e : (db vs).gClauses.take j ++ [C vs[j]] = (db vs).gClauses.take (j + 1) := by
        rw [List.take_succ_eq_append_getElem (by omega)]
        congr 2
        unfold db
        simp
      rw [if_pos (by rw [hd]; simpa using hlt), db_at hlt, obs, show (C vs[j]).gHead = T vs[j] from rfl, predS, obs, if_pos (show sEq F1 F1 = true by decide +kernel), obs, if_pos (by simp; omega), up2 hlt (by omega), e]
      exact cl_L1 n hl m (j + 1) (by omega) (by omega)
    · rw [if_neg (by rw [hd]; simpa using hlt), List.take_of_length_le (by omega)]
theorem l34C (n v : Nat) : pspec_l34Clause (n + 100) (C v) = some (C v) := by kernel_rfl
theorem l34_L1 (n : Nat) {vs : List Nat} (hl : vs.length ≤ 50) : ∀ (m j : Nat), j ≤ vs.length → vs.length - j < m → pspec_l34Clauses_L1 (n + 100) (db vs).gClauses m ((db vs).gClauses.take j) (j : Int) = some (.done (db vs).gClauses)
  | 0, j, h1, h2 => by omega
  | m + 1, j, h1, h2 => by
    have hd := db_len vs
    unfold pspec_l34Clauses_L1
    by_cases hlt : j < vs.length
    · have e : (db vs).gClauses.take j ++ [C vs[j]] = (db vs).gClauses.take (j + 1) := by
        rw [List.take_succ_eq_append_getElem (by omega)]
        congr 2
        unfold db
        simp
      rw [if_pos (by rw [hd]; simpa using hlt), db_at hlt, obs, l34C, obs, if_pos (by simp; omega), up2 hlt (by omega), e]
      exact l34_L1 n hl m (j + 1) (by omega) (by omega)
    · rw [if_neg (by rw [hd]; simpa using hlt), List.take_of_length_le (by omega)]
theorem clausesOf (n : Nat) {vs : List Nat} (hl : vs.length ≤ 50) : pspec_ClausesOf (n + 100) (db vs) F1 = some (db vs).gClauses := by
  have e1 := cl_L1 n hl (n + 100) 0 (by omega) (by omega)
  have e2 := l34_L1 n hl (n + 100) 0 (by omega) (by omega)
  rw [show ((0 : Nat) : Int) = 0 from rfl, List.take_zero] at e1 e2
  unfold pspec_ClausesOf pspec_l08ClausesOfRaw pspec_l34Clauses
  rw [e1]
  simp only [obs]
  rw [e2]
  rfl
theorem ct (n : Nat) : ∀ v : Nat, v < 100 → ((pspec_ClauseTerm (n + 100) (C v)).bind fun x => pspec_SameTerm (n + 100) x x) = some true := all100 (f := fun v : Nat => (pspec_ClauseTerm (n + 100) (C v)).bind fun x => pspec_SameTerm (n + 100) x x) (g := fun _ => some true) (by kernel_rfl)
theorem same_L1 (n : Nat) {vs : List Nat} (hl : vs.length ≤ 50) (hv : ∀ v ∈ vs, v < 100) : ∀ (m j : Nat), j ≤ vs.length → vs.length - j < m → plaws_sameDb_L1 (n + 100) (db vs) (db vs) m (j : Int) = some (.done ())
  | 0, j, h1, h2 => by omega
  | m + 1, j, h1, h2 => by
    have hd := db_len vs
    unfold plaws_sameDb_L1
    by_cases hlt : j < vs.length
    · have e := ct n _ (hv _ (List.getElem_mem hlt))
      obtain ⟨x, e1, e2⟩ := Option.bind_eq_some_iff.1 e
      rw [if_pos (by rw [hd]; simpa using hlt), db_at hlt]
      simp only [obs]
      rw [e1]
      simp only [obs]
      rw [e2]
      simp only [obs]
      rw [if_neg (by decide), if_neg (by simp [sEq_refl]), up2 hlt (by omega)]
      exact same_L1 n hl hv m (j + 1) (by omega) (by omega)
    · rw [if_neg (by rw [hd]; simpa using hlt)]
theorem sameDb (n : Nat) {vs : List Nat} (hl : vs.length ≤ 50) (hv : ∀ v ∈ vs, v < 100) : plaws_sameDb (n + 100) (db vs) (db vs) = some true := by
  have e := same_L1 n hl hv (n + 100) 0 (by omega) (by omega)
  rw [show ((0 : Nat) : Int) = 0 from rfl] at e
  unfold plaws_sameDb
  rw [if_neg (by simp), show plaws_sameTexts (n + 100) (db vs).gOpen (db vs).gOpen = some true by kernel_rfl, obs, if_neg (by decide), e]
  rfl
/-- The numbers of the lines. -/
def nm (l : List Int) (i : Nat) : Nat := (Int.tmod (l.getD (i + 1) 0) 100).toNat
def nms (l : List Int) (c : Nat) : List Nat := (List.range c).map (nm l)
theorem nm_at {l : List Int} (hl : l.length = 12) (h : ∀ x ∈ l, 0 ≤ x ∧ x ≤ 9999) {i : Nat} (hi : i < 5) : ∃ x, at' l (wr.i64 ((i : Int) + 1)) = some x ∧ Int.tmod x 100 = ((nm l i : Nat) : Int) ∧ nm l i < 100 := by
  have hlt : i + 1 < l.length := by omega
  rw [show wr.i64 ((i : Int) + 1) = ((i + 1 : Nat) : Int) by rw [wr_i64 (by omega) (by omega)]; omega, at_lt hlt]
  have h1 := (h _ (List.getElem_mem hlt)).1
  have e : l.getD (i + 1) 0 = l[i + 1] := by rw [List.getD_eq_getElem?_getD, List.getElem?_eq_getElem hlt]; rfl
  have h2 := Int.tmod_nonneg 100 h1
  have h3 := Int.tmod_lt_of_pos l[i + 1] (b := 100) (by decide)
  refine ⟨_, rfl, ?_, ?_⟩
  · unfold nm
    rw [e]
    omega
  · unfold nm
    rw [e]
    omega
theorem bs_app (a b : List UInt8) : bs a ++ bs b = bs (a ++ b) := by
  apply ByteArray.ext
  simp [bs]
theorem chs_app (a : List Nat) (v : Nat) : chs (a ++ [v]) = chs a ++ ch v := by
  induction a with
  | nil => simp [chs]
  | cons x a ih => rw [List.cons_append, chs, chs, ih, List.append_assoc]
theorem build_L1 (n : Nat) {l : List Int} {p0 : Int} {c : Nat} (hl : l.length = 12) (h : ∀ x ∈ l, 0 ≤ x ∧ x ≤ 9999) (hc : wr.i64 (1 + Int.tmod p0 5) = (c : Int)) (hc5 : c ≤ 5) : ∀ (m i : Nat), i ≤ c → c - i < m → plaws_FnLoadsAgain_L1 (n + 100) p0 l m (bs (chs (nms l i))) (i : Int) = some (.done (bs (chs (nms l c))))
  | 0, i, h1, h2 => by omega
  | m + 1, i, h1, h2 => by
    unfold plaws_FnLoadsAgain_L1
    by_cases hlt : i < c
    · obtain ⟨x, e1, e2, e3⟩ := nm_at hl h (show i < 5 by omega)
      have hz := chs_len (nms l i)
      have hz2 : (nms l i).length = i := by unfold nms; simp
      have hz3 := dg_len (nm l i)
      have z1 : (bs (chs (nms l i))).size ≤ 50 := by rw [bs_size]; omega
      have z2 : (bs (dg (nm l i))).size ≤ 2 := by rw [bs_size]; omega
      have sum : ∀ a b : ByteArray, a.size ≤ 1000 → b.size ≤ 1000 → sumOk a b := fun a b h1 h2 => by unfold sumOk; omega
      have z3 := ba_size (bs (chs (nms l i))) (bs [102, 97, 99, 116, 40])
      have z4 := ba_size (bs (chs (nms l i)) ++ bs [102, 97, 99, 116, 40]) (bs (dg (nm l i)))
      have z5 : (bs [102, 97, 99, 116, 40]).size = 5 := by decide
      have z6 : (bs [41, 46, 10]).size = 3 := by decide
      rw [if_pos (by rw [hc]; simpa using hlt), if_pos (sum _ _ (by omega) (by omega)), e1, obs, if_pos (by decide), e2, sDecimal n _ e3, obs, if_pos (sum _ _ (by omega) (by omega)), if_pos (sum _ _ (by omega) (by omega)), up2 hlt (by omega)]
      have e : bs (chs (nms l i)) ++ bs [102, 97, 99, 116, 40] ++ bs (dg (nm l i)) ++ bs [41, 46, 10] = bs (chs (nms l (i + 1))) := by
        rw [bs_app, bs_app, bs_app]
        congr 1
        unfold nms
        rw [List.range_succ, List.map_append, List.map_singleton, chs_app]
        unfold ch FACT
        simp
      rw [e]
      exact build_L1 n hl h hc hc5 m (i + 1) (by omega) (by omega)
    · rw [if_neg (by rw [hc]; simpa using hlt), show i = c by omega]
theorem check_L2 (n : Nat) {l : List Int} {p0 : Int} {c : Nat} (hl : l.length = 12) (h : ∀ x ∈ l, 0 ≤ x ∧ x ≤ 9999) (hc : wr.i64 (1 + Int.tmod p0 5) = (c : Int)) (hc5 : c ≤ 5) : ∀ (m i : Nat), i ≤ c → c - i < m → plaws_FnLoadsAgain_L2 (n + 100) p0 (db (nms l c)).gClauses l m (i : Int) = some (.done ())
  | 0, i, h1, h2 => by omega
  | m + 1, i, h1, h2 => by
    have hz2 : (nms l c).length = c := by unfold nms; simp
    unfold plaws_FnLoadsAgain_L2
    by_cases hlt : i < c
    · obtain ⟨x, e1, e2, e3⟩ := nm_at hl h (show i < 5 by omega)
      have e4 : (nms l c)[i]'(by omega) = nm l i := by unfold nms; simp
      rw [if_pos (by rw [hc]; simpa using hlt), if_neg (by rw [db_len, hz2, hc]; simp), db_at (by omega), obs, e4, show at' (C (nm l i)).gHead.gKids 0 = some (.mk 3 (bs []) ((nm l i : Nat) : Int) []) from rfl, obs, e1, obs, if_pos (by decide), e2, if_neg (by rw [mk_gNum]; simp), up2 hlt (by omega)]
      exact check_L2 n hl h hc hc5 m (i + 1) (by omega) (by omega)
    · rw [if_neg (by rw [hc]; simpa using hlt)]
theorem law (a : List Int) (ha : okL (okI .u8) a) : ∃ k, plaws_FnLoadsAgain k a = some true := by
  obtain ⟨n, hn⟩ : ∃ n, maxLen < n := ⟨maxLen + 1, Nat.lt_succ_self _⟩
  refine ⟨n + 100, ?_⟩
  unfold plaws_FnLoadsAgain plaws_big
  rw [obs]
  by_cases hb : (a.length : Int) > 1048576
  · rw [if_pos (by simpa using hb)]
  rw [if_neg (by simpa using hb)]
  have hl : a.length ≤ 1048576 := by omega
  obtain ⟨fl, e1, g1⟩ := drawFiles (n := n + 80) hl (Nat.lt_of_lt_of_le hn (Nat.le_trans (Nat.le_add_right n 80) (Nat.le_add_right _ _)))
  obtain ⟨l, e2, g2, g3⟩ := places (n := n + 80) hl (Nat.lt_of_lt_of_le hn (Nat.le_trans (Nat.le_add_right n 80) (Nat.le_add_right _ _)))
  have e1 : pspec_DrawFiles (n + 100) a = some fl := e1
  have e2 : pspec_DrawPlaces (n + 100) a = some l := e2
  obtain ⟨p0, e3, hp⟩ : ∃ p0, at' l 0 = some p0 ∧ 0 ≤ p0 := by
    have h0 : 0 < l.length := by omega
    have e := at_lt h0
    exact ⟨l[0], e, (g3 _ (List.getElem_mem h0)).1⟩
  have hm1 := Int.tmod_nonneg 5 hp
  have hm2 := Int.tmod_lt_of_pos p0 (b := 5) (by decide)
  obtain ⟨c, hc, hc1, hc5⟩ : ∃ c : Nat, wr.i64 (1 + Int.tmod p0 5) = (c : Int) ∧ 1 ≤ c ∧ c ≤ 5 := ⟨(1 + Int.tmod p0 5).toNat, by rw [wr_i64 (by omega) (by omega)]; omega, by omega, by omega⟩
  have hlen : (nms l c).length = c := by unfold nms; simp
  have hv : ∀ v ∈ nms l c, v < 100 := by
    intro v hv
    unfold nms at hv
    obtain ⟨i, hi, rfl⟩ := List.mem_map.1 hv
    obtain ⟨_, _, _, h⟩ := nm_at g2 g3 (i := i) (by have := List.mem_range.1 hi; omega)
    exact h
  have hz := chs_len (nms l c)
  have b1 := build_L1 n (p0 := p0) g2 g3 hc hc5 (n + 100) 0 (by omega) (by omega)
  have b1 : plaws_FnLoadsAgain_L1 (n + 100) p0 l (n + 100) (bs []) 0 = some (.done (bs (chs (nms l c)))) := b1
  have b2 := check_L2 n (p0 := p0) g2 g3 hc hc5 (n + 100) 0 (by omega) (by omega)
  rw [show ((0 : Nat) : Int) = 0 from rfl] at b2
  have s := stored (n := n + 80) g1 (t := bs (chs (nms l c))) (by rw [bs_size]; omega)
  have s : pspec_Stored (n + 100) fl (bs [102, 97, 99, 116, 115]) (bs (chs (nms l c))) = some (.mk FACTS (bs (chs (nms l c))) :: fl, true) := s
  have c1 := consult n (vs := nms l c) (ws := []) (fl := fl) (by omega) hv (by simp)
  have c1 : pimpl_Consult (n + 100) (.mk [] []) (.mk FACTS (bs (chs (nms l c))) :: fl) (bs [102, 97, 99, 116, 115]) = some (.mk (db (nms l c)) 0 0 0 0) := c1
  have c2 := consult n (vs := nms l c) (ws := nms l c) (fl := fl) (by omega) hv (by omega)
  have c2 : pimpl_Consult (n + 100) (db (nms l c)) (.mk FACTS (bs (chs (nms l c))) :: fl) (bs [102, 97, 99, 116, 115]) = some (.mk (db (nms l c)) 0 0 0 0) := c2
  have q := clausesOf n (vs := nms l c) (by omega)
  have q : pspec_ClausesOf (n + 100) (db (nms l c)) (bs [102, 97, 99, 116, 47, 49]) = some (db (nms l c)).gClauses := q
  rw [e1, obs, e2, obs, e3, obs, if_pos (by decide), b1, obs]
  dsimp only
  rw [s, obs, c1, obs]
  dsimp only
  rw [c2, obs, q, obs, b2, obs]
  dsimp only
  rw [if_pos rfl, sameDb n (by omega) hv, obs, if_pos rfl, if_pos (by decide), if_pos (by decide), if_pos (by rw [db_len, hlen, hc]; simp)]
  have e0 := db_at (vs := nms l c) (j := 0) (by omega)
  rw [show ((0 : Nat) : Int) = 0 from rfl] at e0
  rw [e0, obs]
  show some (sEq FACTS FACTS) = some true
  rw [sEq_refl]
end FnLoadsAgain
end Go.Proofs.YtbchncaolapbhaaGreatDoor

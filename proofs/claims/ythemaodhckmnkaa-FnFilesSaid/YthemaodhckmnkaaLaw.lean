/- The law, plainly. -/
import Derived.Test.YthemaodhckmnkaaFn
set_option linter.unusedVariables false
set_option linter.unusedSimpArgs false
namespace Go.Proofs.Ythemaodhckmnkaa
open Go.RowKit Go.Bv
namespace FnFiles

/-- A small letter stands there. -/
def low (s : ByteArray) (i : Nat) : Prop := 97 ≤ bt s (i : Int) ∧ bt s (i : Int) ≤ 122
/-- A file's name: one to eight small letters. -/
def nameOk (s : ByteArray) : Prop := (∀ i, i < s.size → low s i) ∧ 1 ≤ s.size ∧ s.size ≤ 8
instance (s : ByteArray) (i : Nat) : Decidable (low s i) := by unfold low; infer_instance
instance (s : ByteArray) : Decidable (nameOk s) := by unfold nameOk; infer_instance

theorem l05Small (k : Nat) (s : ByteArray) (i : Nat) : pspec_l05Small k (bt s (i : Int)) = some (decide (low s i)) := by
  unfold pspec_l05Small low
  by_cases h : 97 ≤ bt s (i : Int)
  · rw [if_pos (by simpa using h)]; simp [h]
  · rw [if_neg (by simpa using h)]; simp [h]

theorem lower (k : Nat) (s : ByteArray) (i : Nat) : pimpl_lower k (bt s (i : Int)) = some (decide (low s i)) := by
  unfold pimpl_lower low
  by_cases h : 97 ≤ bt s (i : Int)
  · rw [if_pos (by simpa using h)]; simp [h]
  · rw [if_neg (by simpa using h)]; simp [h]

theorem l01In (k : Nat) (x a b : Int) : pspec_l01In k x a b = some (decide (a ≤ x ∧ x ≤ b)) := by
  unfold pspec_l01In
  by_cases h : a ≤ x
  · rw [if_pos (by simpa using h)]; simp [h]
  · rw [if_neg (by simpa using h)]; simp [h]

theorem within (k : Nat) (x a b : Int) : pimpl_within k x a b = some (decide (a ≤ x ∧ x ≤ b)) := by
  unfold pimpl_within
  by_cases h : a ≤ x
  · rw [if_pos (by simpa using h)]; simp [h]
  · rw [if_neg (by simpa using h)]; simp [h]

theorem l16Name_L1 (k : Nat) (s : ByteArray) (hs : s.size ≤ maxLen) : ∀ (m n : Nat), n ≤ s.size → s.size - n < m →
    ∃ o, pspec_l16Name_L1 k s m (n : Int) = some o ∧ (match o with | .ret r => r = false ∧ ∃ i, i < s.size ∧ ¬ low s i | .done _ => ∀ i, n ≤ i → i < s.size → low s i)
  | 0, n, h1, h2 => by omega
  | m + 1, n, h1, h2 => by
    unfold pspec_l16Name_L1
    by_cases hlt : n < s.size
    · rw [if_pos (by simpa using hlt), if_pos ⟨by omega, by simpa using hlt⟩, l05Small]
      simp only [Option.bind_some]
      by_cases hl : low s n
      · rw [if_neg (by simp [hl]), wr_succ hlt hs]
        obtain ⟨o, h3, h4⟩ := l16Name_L1 k s hs m (n + 1) (by omega) (by omega)
        refine ⟨o, h3, ?_⟩
        cases o with
        | ret r => exact h4
        | done u =>
          intro i hi1 hi2
          by_cases e : i = n
          · subst e; exact hl
          · exact h4 i (by omega) hi2
      · rw [if_pos (by simp [hl])]
        exact ⟨_, rfl, rfl, n, hlt, hl⟩
    · rw [if_neg (by simpa using hlt)]
      exact ⟨_, rfl, fun i h3 h4 => by omega⟩

theorem l16Name {k : Nat} {s : ByteArray} (hs : s.size ≤ maxLen) (hk : maxLen < k) : pspec_l16Name k s = some (decide (nameOk s)) := by
  unfold pspec_l16Name
  obtain ⟨o, h1, h2⟩ := l16Name_L1 k s hs k 0 (by omega) (by omega)
  rw [show ((0 : Nat) : Int) = 0 from rfl] at h1
  rw [h1]
  cases o with
  | ret r =>
    obtain ⟨rfl, i, h3, h4⟩ := h2
    have : ¬ nameOk s := fun h => h4 (h.1 i h3)
    simp [this]
  | done u =>
    simp only [Option.bind_some]
    rw [l01In]
    simp only [Option.bind_some]
    have : (∀ i, i < s.size → low s i) := fun i hi => h2 i (by omega) hi
    congr 1
    rw [decide_eq_decide]
    unfold nameOk
    constructor
    · intro h; exact ⟨this, by omega, by omega⟩
    · intro h; obtain ⟨_, h5, h6⟩ := h; omega

theorem run_L1 (k : Nat) (s : ByteArray) (hs : s.size ≤ maxLen) : ∀ (m n : Nat), n ≤ s.size → s.size - n < m →
    ∃ j : Nat, pimpl_run_on2_pimpl_lower_L1 k s m (n : Int) = some (.done (j : Int)) ∧ n ≤ j ∧ j ≤ s.size ∧ (∀ i, n ≤ i → i < j → low s i) ∧ (j < s.size → ¬ low s j)
  | 0, n, h1, h2 => by omega
  | m + 1, n, h1, h2 => by
    unfold pimpl_run_on2_pimpl_lower_L1
    by_cases hlt : n < s.size
    · rw [if_pos (by simpa using hlt), if_pos ⟨by omega, by simpa using hlt⟩, lower]
      simp only [Option.bind_some]
      by_cases hl : low s n
      · rw [if_pos (by simp [hl]), wr_succ hlt hs]
        obtain ⟨j, h3, h4, h5, h6, h7⟩ := run_L1 k s hs m (n + 1) (by omega) (by omega)
        refine ⟨j, h3, by omega, h5, fun i hi1 hi2 => ?_, h7⟩
        by_cases e : i = n
        · subst e; exact hl
        · exact h6 i (by omega) hi2
      · rw [if_neg (by simp [hl])]
        exact ⟨n, rfl, by omega, by omega, fun i h3 h4 => by omega, fun _ => hl⟩
    · rw [if_neg (by simpa using hlt)]
      exact ⟨n, rfl, by omega, by omega, fun i h3 h4 => by omega, fun h => absurd h hlt⟩

theorem fileName {k : Nat} {s : ByteArray} (hs : s.size ≤ maxLen) (hk : maxLen < k) : pimpl_fileName k s = some (decide (nameOk s)) := by
  unfold pimpl_fileName
  rw [within]
  simp only [Option.bind_some]
  by_cases hz : (1 : Int) ≤ (s.size : Int) ∧ (s.size : Int) ≤ 8
  · rw [if_pos (by simpa using hz)]
    unfold pimpl_run_on2_pimpl_lower
    obtain ⟨j, h1, h2, h3, h4, h5⟩ := run_L1 k s hs k 0 (by omega) (by omega)
    rw [show ((0 : Nat) : Int) = 0 from rfl] at h1
    rw [h1]
    simp only [Option.bind_some]
    congr 1
    by_cases hj : j = s.size
    · subst hj
      have : nameOk s := ⟨fun i hi => h4 i (by omega) hi, by omega, by omega⟩
      simp [this]
    · have : ¬ nameOk s := fun h => h5 (by omega) (h.1 j (by omega))
      have h6 : ((j : Int) == (s.size : Int)) = false := by
        rw [beq_eq_false_iff_ne]; omega
      rw [h6]; simp [this]
  · rw [if_neg (by simpa using hz)]
    have : ¬ nameOk s := fun h => hz ⟨by have := h.2.1; omega, by have := h.2.2; omega⟩
    simp [this]
theorem sub_one {n : Nat} (h : 0 < n) (hm : n ≤ maxLen) : wr.i64 ((n : Int) - 1) = ((n - 1 : Nat) : Int) := by
  rw [maxLen_eq] at hm
  rw [wr_i64 (by omega) (by omega)]
  omega
theorem filesOk_L1 (k : Nat) (hk : maxLen < k) (l : List GFile) (hl : l.length ≤ maxLen) (ho : ∀ x ∈ l, x.ok) : ∀ (m n : Nat), n ≤ l.length → l.length - n < m →
    ∃ o, pspec_FilesOk_L1 k l m (n : Int) = some o ∧ pimpl_FilesOk_L1 k l m (n : Int) = some o
  | 0, n, h1, h2 => by omega
  | m + 1, n, h1, h2 => by
    unfold pspec_FilesOk_L1 pimpl_FilesOk_L1
    by_cases hlt : n < l.length
    · have hx := ho _ (List.getElem_mem hlt)
      have ih := filesOk_L1 k hk l hl ho m (n + 1) (by omega) (by omega)
      have hd : decide ((n : Int) < (l.length : Int)) = true := by simpa using hlt
      rw [if_pos hd, if_pos hd]
      simp only [at_lt hlt, Option.bind_some, l16Name hx.1 hk, fileName hx.1 hk, wr_succ hlt hl]
      split
      · exact ⟨_, rfl, rfl⟩
      · split
        · exact ⟨_, rfl, rfl⟩
        · split
          · rename_i hn
            have hn' : 0 < n := by simpa using hn
            rw [sub_one hn' (by omega), at_lt (show n - 1 < l.length by omega)]
            simp only [Option.bind_some]
            split
            · exact ⟨_, rfl, rfl⟩
            · exact ih
          · exact ih
    · have hd : ¬ decide ((n : Int) < (l.length : Int)) = true := by simpa using hlt
      rw [if_neg hd, if_neg hd]
      exact ⟨_, rfl, rfl⟩
theorem filesOk {k : Nat} {l : List GFile} (hl : okL GFile.ok l) (hk : maxLen < k) : ∃ b, pspec_FilesOk k l = some b ∧ pimpl_FilesOk k l = some b := by
  unfold pspec_FilesOk pimpl_FilesOk
  obtain ⟨o, h1, h2⟩ := filesOk_L1 k hk l hl.1 hl.2 k 0 (by omega) (by have := hl.1; omega)
  rw [show ((0 : Nat) : Int) = 0 from rfl] at h1 h2
  rw [h1, h2]
  cases o with
  | ret r => exact ⟨r, rfl, rfl⟩
  | done u => exact ⟨_, rfl, rfl⟩
/-- What is stored, in its place. -/
def put (l : List GFile) (n t : ByteArray) (p : Nat) : List GFile :=
  match l[p]? with
  | some x => l.take p ++ [GFile.mk n t] ++ (if sEq x.gName n = true then l.drop (p + 1) else l.drop p)
  | none => l ++ [GFile.mk n t]
theorem tail_L1 {k : Nat} {l : List GFile} {n t : ByteArray} (hl : l.length ≤ 1048576) : ∀ (m j : Nat) (o : List GFile), j ≤ l.length → l.length - j < m → o.length ≤ j + 1 → pspec_Stored_L1 k l n t m o true (j : Int) = some (.done (o ++ l.drop j, true))
  | 0, j, o, h1, h2, h3 => by omega
  | m + 1, j, o, h1, h2, h3 => by
    have hM := maxLen_eq
    rw [pspec_Stored_L1]
    by_cases hlt : j < l.length
    · rw [if_pos (by simpa using hlt), if_neg (by decide)]
      unfold pspec_Stored_J2
      rw [if_neg (by decide), at_lt hlt, Option.bind_some, if_pos (by simp only [List.length_cons, List.length_nil]; omega), wr_succ hlt (by omega), tail_L1 hl m (j + 1) _ (by omega) (by omega) (by simp only [List.length_append, List.length_cons, List.length_nil]; omega), List.drop_eq_getElem_cons hlt]
      simp
    · rw [if_neg (by simpa using hlt), List.drop_of_length_le (by omega)]; simp
theorem both_L1 {k : Nat} {l : List GFile} {n t : ByteArray} (hl : l.length ≤ 1048576) : ∀ (m j : Nat), j ≤ l.length → l.length - j < m →
    ∃ p, pimpl_Stored_L1 k l n m (j : Int) = some (.done ((p : Nat) : Int)) ∧ p ≤ l.length ∧ pspec_Stored_L1 k l n t m (l.take j) false (j : Int) = some (.done (if p < l.length then (put l n t p, true) else (l, false)))
  | 0, j, h1, h2 => by omega
  | m + 1, j, h1, h2 => by
    have hM := maxLen_eq
    rw [pspec_Stored_L1, pimpl_Stored_L1]
    by_cases hlt : j < l.length
    · have hd : decide ((j : Int) < (l.length : Int)) = true := by simpa using hlt
      rw [if_pos hd, if_pos hd, if_pos (by decide), at_lt hlt, Option.bind_some, Option.bind_some]
      have tl : (l.take j).length = j := by rw [List.length_take]; omega
      cases hs : sLt l[j].gName n with
      | true =>
        rw [if_pos rfl]
        unfold pspec_Stored_J2
        rw [if_neg (by decide), at_lt hlt, Option.bind_some, if_pos (by simp only [List.length_cons, List.length_nil]; omega), wr_succ hlt (by omega), ← List.take_succ_eq_append_getElem hlt]
        exact both_L1 hl m (j + 1) (by omega) (by omega)
      | false =>
        rw [if_neg (by decide)]
        refine ⟨j, rfl, by omega, ?_⟩
        unfold pspec_Stored_J2
        rw [if_pos (by decide), if_pos (by simp only [List.length_cons, List.length_nil]; omega), at_lt hlt, Option.bind_some, if_pos hlt]
        unfold put
        rw [List.getElem?_eq_getElem hlt]
        simp only
        cases he : sEq l[j].gName n with
        | true =>
          rw [if_pos rfl, if_pos rfl, wr_succ hlt (by omega), tail_L1 hl m (j + 1) _ (by omega) (by omega) (by simp only [List.length_append, List.length_cons, List.length_nil]; omega)]
        | false =>
          rw [if_neg (by decide), if_neg (by decide), Option.bind_some, if_pos (by simp only [List.length_append, List.length_cons, List.length_nil]; omega), wr_succ hlt (by omega), tail_L1 hl m (j + 1) _ (by omega) (by omega) (by simp only [List.length_append, List.length_cons, List.length_nil]; omega), List.drop_eq_getElem_cons hlt]
          simp
    · have hd : ¬ decide ((j : Int) < (l.length : Int)) = true := by simpa using hlt
      rw [if_neg hd, if_neg hd]
      refine ⟨j, rfl, h1, ?_⟩
      rw [if_neg hlt, List.take_of_length_le (by omega)]
theorem put_len {l : List GFile} {n t : ByteArray} {p : Nat} (hp : p ≤ l.length) : (put l n t p).length ≤ l.length + 1 := by
  unfold put
  split
  · rename_i x hx
    split <;> simp only [List.length_append, List.length_cons, List.length_nil, List.length_take, List.length_drop] <;> omega
  · simp
theorem put_mem {l : List GFile} {n t : ByteArray} {p : Nat} {x : GFile} (h : x ∈ put l n t p) : x ∈ l ∨ x = GFile.mk n t := by
  unfold put at h
  split at h
  · rcases List.mem_append.1 h with h | h
    · rcases List.mem_append.1 h with h | h
      · exact .inl (List.mem_of_mem_take h)
      · exact .inr (List.mem_singleton.1 h)
    · split at h <;> exact .inl (List.mem_of_mem_drop h)
  · rcases List.mem_append.1 h with h | h
    · exact .inl h
    · exact .inr (List.mem_singleton.1 h)
theorem stored {k : Nat} {l : List GFile} {n t : ByteArray} (hl : okL GFile.ok l) (hn : okFs n) (ht : okFs t) (hs : l.length ≤ 1048576) (hk : maxLen < k) :
    ∃ r : List GFile × Bool, pspec_Stored k l n t = some r ∧ pimpl_Stored k l n t = some r ∧ r.1.length ≤ l.length + 1 ∧ (∀ x ∈ r.1, x ∈ l ∨ x = GFile.mk n t) ∧
      (∃ p, p ≤ l.length ∧ ∃ b1 b2, pimpl_FilesOk k (put l n t p) = some b1 ∧ pimpl_FilesOk k l = some b2 ∧ r = (if b1 = true ∧ b2 = true then (put l n t p, true) else (l, false)) ∧ pimpl_Stored_L1 k l n k 0 = some (.done (p : Int))) := by
  have hM := maxLen_eq
  obtain ⟨p, e1, hp, e2⟩ := both_L1 (k := k) (n := n) (t := t) hs k 0 (by omega) (by omega)
  rw [show ((0 : Nat) : Int) = 0 from rfl, List.take_zero] at e2
  rw [show ((0 : Nat) : Int) = 0 from rfl] at e1
  have hpl := put_len (n := n) (t := t) hp
  have hpo : okL GFile.ok (put l n t p) := ⟨by omega, fun x hx => by
    rcases put_mem hx with hx | rfl
    · exact hl.2 x hx
    · exact ⟨hn, ht⟩⟩
  obtain ⟨b1, f1, f2⟩ := filesOk hpo hk
  obtain ⟨b2, f3, f4⟩ := filesOk hl hk
  refine ⟨if b1 = true ∧ b2 = true then (put l n t p, true) else (l, false), ?_, ?_, ?_, ?_, p, hp, b1, b2, f2, f4, rfl, e1⟩
  · have J3 : pspec_Stored_J3 k l (put l n t p) = some (if b1 = true ∧ b2 = true then (put l n t p, true) else (l, false)) := by
      unfold pspec_Stored_J3 pspec_Stored_J4
      rw [f1, f3, Option.bind_some, Option.bind_some]
      have : ([] : List GFile).length + l.length ≤ 1073741824 := by simp only [List.length_nil]; omega
      cases b1 <;> cases b2 <;> simp [this] <;> omega
    unfold pspec_Stored
    rw [e2, Option.bind_some]
    by_cases hlt : p < l.length
    · simp only [if_pos hlt]
      rw [if_neg (by decide)]
      exact J3
    · simp only [if_neg hlt]
      rw [if_pos (by decide), if_pos (by simp only [List.length_cons, List.length_nil]; omega)]
      have : put l n t p = l ++ [GFile.mk n t] := by unfold put; rw [List.getElem?_eq_none (by omega)]
      rw [← this]; exact J3
  · have J2 : pimpl_Stored_J2 k l (put l n t p) = some (if b1 = true then (put l n t p, true) else (l, false)) := by
      unfold pimpl_Stored_J2
      rw [f2, Option.bind_some]
      have : ([] : List GFile).length + l.length ≤ 1073741824 := by simp only [List.length_nil]; omega
      cases b1 <;> simp [this] <;> omega
    have ins : ∀ q : Nat, q = p → (∀ x, l[p]? = some x → sEq x.gName n = false) → pslices_Insert___impl_File_impl_File_ k l (q : Int) [GFile.mk n t] = some (put l n t p) := by
      intro q hq hx
      subst hq
      unfold pslices_Insert___impl_File_impl_File_
      rw [if_pos ⟨⟨by omega, by simpa using hp, by omega⟩, rfl⟩]
      unfold put
      cases h : l[q]? with
      | none =>
        have : l.length ≤ q := List.getElem?_eq_none_iff.1 h
        simp only [Int.toNat_natCast]
        rw [List.take_of_length_le this, List.drop_of_length_le this]; rfl
      | some x =>
        simp only [Int.toNat_natCast]
        rw [hx x h, if_neg (by decide), List.append_assoc]
    unfold pimpl_Stored
    rw [if_pos (by simp only [List.length_nil]; omega), f4, Option.bind_some]
    cases b2 with
    | false => rw [if_pos (by decide)]; simp
    | true =>
      rw [if_neg (by decide), e1, Option.bind_some]
      simp only
      have fin : pimpl_Stored_J2 k l (put l n t p) = some (if b1 = true ∧ True then (put l n t p, true) else (l, false)) := by rw [J2]; simp
      by_cases hlt : p < l.length
      · rw [if_pos (by simpa using hlt), at_lt hlt, Option.bind_some]
        unfold pimpl_Stored_J3
        cases he : sEq l[p].gName n with
        | true =>
          rw [if_pos rfl, at_lt hlt, Option.bind_some]
          have : l.set ((p : Int).toNat) (GFile.mk l[p].gName t) = put l n t p := by
            unfold put
            rw [List.getElem?_eq_getElem hlt]
            simp only [Int.toNat_natCast]
            rw [he, if_pos rfl, sEq_iff.1 he, List.set_eq_take_append_cons_drop, if_pos hlt]
            simp
          rw [this]; exact fin
        | false =>
          rw [if_neg (by decide), ins p rfl (fun x hx => by rw [List.getElem?_eq_getElem hlt] at hx; rw [← Option.some.inj hx]; exact he), Option.bind_some]
          exact fin
      · rw [if_neg (by simpa using hlt)]
        unfold pimpl_Stored_J3
        rw [if_neg (by decide), ins p rfl (fun x hx => by rw [List.getElem?_eq_none (by omega)] at hx; cases hx), Option.bind_some]
        exact fin
  · split
    · exact hpl
    · simp only; omega
  · split
    · exact fun x hx => put_mem hx
    · exact fun x hx => .inl hx
/-! what is drawn -/
/-- Not by computation: the kernel must not look into the conditions. -/
theorem obs {α β : Type} {a : α} {f : α → Option β} : (some a).bind f = f a := by
  cases h : f a with
  | none => exact h
  | some b => exact h
theorem kk {n k : Nat} (m : Nat) (h : n < k - maxLen) (hm : m ≤ n := by decide) : maxLen + m < k := by
  rw [Nat.add_comm]
  exact Nat.add_lt_of_lt_sub (Nat.lt_of_le_of_lt hm h)
theorem kz {n k : Nat} (h : n < k - maxLen) : maxLen < k := by
  have := kk 0 h (Nat.zero_le _)
  exact this
theorem kle {n k : Nat} (m : Nat) (h : n < k - maxLen) (hm : m ≤ n := by decide) : m < k - maxLen := Nat.lt_of_le_of_lt hm h
theorem band255 (x : Int) : 0 ≤ band .i64 x 255 ∧ band .i64 x 255 ≤ 255 := by
  have h : ∀ b : BitVec 64, (b &&& BitVec.ofInt 64 255).toNat ≤ 255 := by
    intro b
    rw [BitVec.toNat_and]
    exact Nat.and_le_right
  have e : band .i64 x 255 = IntKind.wrap .i64 ((BitVec.ofInt 64 x &&& BitVec.ofInt 64 255).toNat) := rfl
  have h1 := h (BitVec.ofInt 64 x)
  generalize (BitVec.ofInt 64 x &&& BitVec.ofInt 64 255).toNat = n at e h1
  have e2 : wr.i64 (n : Int) = n := wr_i64 (by omega) (by omega)
  rw [e, show IntKind.wrap .i64 (n : Int) = wr.i64 (n : Int) from rfl, e2]
  omega

theorem at_int {α : Type} {l : List α} {v : Int} (h1 : 0 ≤ v) (h2 : v < (l.length : Int)) : ∃ (h : v.toNat < l.length), at' l v = some l[v.toNat] := by
  obtain ⟨n, rfl⟩ := Int.eq_ofNat_of_zero_le h1
  exact ⟨by omega, at_lt (by omega)⟩
/-- A cursor is right. -/
def CurOk (c : GL01Cur) : Prop := c.gB.length ≤ 1048576 ∧ 0 ≤ c.gI ∧ c.gI ≤ (c.gB.length : Int)

theorem l01New_L1 (k : Nat) (a : List Int) (hl : a.length ≤ 1048576) : ∀ (m j : Nat) (h : Int), j ≤ a.length → a.length - j < m → ∃ r, pspec_l01New_L1 k a m h (j : Int) = some (.done r)
  | 0, j, h, h1, h2 => by omega
  | m + 1, j, h, h1, h2 => by
    rw [pspec_l01New_L1]
    have hM := maxLen_eq
    by_cases c : j < a.length
    · rw [if_pos (by simpa using c)]
      split
      · rw [at_lt c, wr_succ c (by omega)]
        exact l01New_L1 k a hl m (j + 1) _ (by omega) (by omega)
      · exact ⟨_, rfl⟩
    · rw [if_neg (by simpa using c)]
      exact ⟨_, rfl⟩
theorem l01New {k : Nat} {a : List Int} (hl : a.length ≤ 1048576) (hk : maxLen < k) : ∃ c, pspec_l01New k a = some c ∧ CurOk c := by
  unfold pspec_l01New
  have hM := maxLen_eq
  obtain ⟨r, e⟩ := l01New_L1 k a hl k 0 (wr.i64 (95101 + (a.length : Int))) (by omega) (by omega)
  rw [show ((0 : Nat) : Int) = 0 from rfl] at e
  rw [e]
  exact ⟨_, rfl, hl, by simp, by simp⟩
theorem l01Byte {c : GL01Cur} (h : CurOk c) (k : Nat) : ∃ c' v, pspec_l01Byte k c = some (c', v) ∧ CurOk c' ∧ 0 ≤ v ∧ v ≤ 255 := by
  unfold pspec_l01Byte
  obtain ⟨h1, h2, h3⟩ := h
  by_cases g : c.gI < (c.gB.length : Int)
  · rw [if_pos (by simpa using g)]
    obtain ⟨hn, e⟩ := at_int h2 g
    rw [e]
    refine ⟨_, _, rfl, ⟨h1, ?_, ?_⟩, (band255 _).1, (band255 _).2⟩
    · simp only; rw [wr_i64 (by omega) (by omega)]; omega
    · simp only; rw [wr_i64 (by omega) (by omega)]; omega
  · rw [if_neg (by simpa using g)]
    exact ⟨_, _, rfl, ⟨h1, h2, h3⟩, (band255 _).1, (band255 _).2⟩
theorem l01Below {c : GL01Cur} (h : CurOk c) (k : Nat) (n : Int) : ∃ c' v, pspec_l01Below k c n = some (c', v) ∧ CurOk c' ∧ 0 ≤ v ∧ (0 < n → v < n) ∧ (n ≤ 0 → v = 0) := by
  unfold pspec_l01Below
  by_cases g : n ≤ 0
  · rw [if_pos (by simpa using g)]
    exact ⟨_, _, rfl, h, by omega, by omega, fun _ => rfl⟩
  rw [if_neg (by simpa using g)]
  split
  · obtain ⟨c', v, e, h1, h2, h3⟩ := l01Byte h k
    rw [e]
    simp only [Option.bind_some]
    rw [if_pos (by omega)]
    exact ⟨_, _, rfl, h1, Int.tmod_nonneg _ h2, fun _ => Int.tmod_lt_of_pos _ (by omega), by omega⟩
  · obtain ⟨c1, v1, e1, h1, l1, u1⟩ := l01Byte h k
    obtain ⟨c2, v2, e2, h2, l2, u2⟩ := l01Byte h1 k
    obtain ⟨c3, v3, e3, h3, l3, u3⟩ := l01Byte h2 k
    obtain ⟨c4, v4, e4, h4, l4, u4⟩ := l01Byte h3 k
    simp only [e1, e2, e3, e4, Option.bind_some]
    rw [if_pos (by omega)]
    have w1 : wr.i64 (v1 * 16777216) = v1 * 16777216 := wr_i64 (by omega) (by omega)
    have w2 : wr.i64 (v2 * 65536) = v2 * 65536 := wr_i64 (by omega) (by omega)
    have w3 : wr.i64 (v3 * 256) = v3 * 256 := wr_i64 (by omega) (by omega)
    rw [w1, w2, w3, wr_i64 (x := v1 * 16777216 + v2 * 65536) (by omega) (by omega), wr_i64 (x := v1 * 16777216 + v2 * 65536 + v3 * 256) (by omega) (by omega), wr_i64 (by omega) (by omega)]
    exact ⟨_, _, rfl, h4, Int.tmod_nonneg _ (by omega), fun _ => Int.tmod_lt_of_pos _ (by omega), by omega⟩
theorem at_mem {α : Type} {l : List α} {v : Int} (h1 : 0 ≤ v) (h2 : v < (l.length : Int)) : ∃ x, at' l v = some x ∧ x ∈ l := by
  obtain ⟨hn, e⟩ := at_int h1 h2
  exact ⟨_, e, List.getElem_mem hn⟩
theorem l01Pick {c : GL01Cur} (h : CurOk c) (k : Nat) {l : List ByteArray} (hl : 0 < l.length) : ∃ c' s, pspec_l01Pick k c l = some (c', s) ∧ CurOk c' ∧ s ∈ l := by
  unfold pspec_l01Pick
  obtain ⟨c', v, e, h1, h2, h3, h4⟩ := l01Below h k (l.length : Int)
  obtain ⟨s, e2, h5⟩ := at_mem h2 (h3 (by omega))
  simp only [e, e2, Option.bind_some]
  exact ⟨_, _, rfl, h1, h5⟩
theorem l01Once {c : GL01Cur} (h : CurOk c) (k : Nat) (n : Int) : ∃ c' b, pspec_l01Once k c n = some (c', b) ∧ CurOk c' := by
  unfold pspec_l01Once
  obtain ⟨c', v, e, h1, h2, h3, h4⟩ := l01Below h k n
  simp only [e, Option.bind_some]
  exact ⟨_, _, rfl, h1⟩
theorem sEq_comm2 (x y : ByteArray) : sEq x y = sEq y x := by
  cases h : sEq x y with
  | true => rw [sEq_iff.1 h, sEq_refl]
  | false =>
    cases h2 : sEq y x with
    | false => rfl
    | true => rw [sEq_iff.1 h2, sEq_refl] at h; cases h
/-! files that are right -/
theorem size_cat (a b : ByteArray) : (a ++ b).size = a.size + b.size := ByteArray.size_append
def Right (l : List GFile) : Prop := l.length ≤ 6 ∧ (∀ x ∈ l, nameOk x.gName ∧ x.gText.size ≤ 3000) ∧ (∀ i (h : i + 1 < l.length), sLt l[i].gName l[i + 1].gName = true)
theorem nameOk_fs {s : ByteArray} (h : nameOk s) : okFs s := by
  have := h.2.2
  have hM := maxLen_eq
  unfold okFs; omega
theorem Right.ok {l : List GFile} (h : Right l) : okL GFile.ok l := by
  have hM := maxLen_eq
  refine ⟨by have := h.1; omega, fun x hx => ⟨nameOk_fs (h.2.1 x hx).1, ?_⟩⟩
  have := (h.2.1 x hx).2
  unfold okFs; omega
theorem right_L1 {k : Nat} {l : List GFile} (hk : maxLen < k) (h : Right l) : ∀ (m j : Nat), j ≤ l.length → l.length - j < m → pimpl_FilesOk_L1 k l m (j : Int) = some (.done ())
  | 0, j, h1, h2 => by omega
  | m + 1, j, h1, h2 => by
    have hM := maxLen_eq
    have hl := h.1
    rw [pimpl_FilesOk_L1]
    by_cases hlt : j < l.length
    · have hx := h.2.1 _ (List.getElem_mem hlt)
      have ih := right_L1 hk h m (j + 1) (by omega) (by omega)
      rw [if_pos (by simpa using hlt), at_lt hlt, Option.bind_some, fileName (nameOk_fs hx.1) hk, Option.bind_some, decide_eq_true hx.1, if_neg (by decide), if_neg (by have := hx.2; rw [decide_eq_true_eq]; omega), wr_succ hlt (by omega)]
      by_cases hj : j = 0
      · subst hj
        rw [if_neg (by decide)]; exact ih
      · rw [if_pos (by rw [decide_eq_true_eq]; omega), sub_one (by omega) (by omega), at_lt (show j - 1 < l.length by omega), Option.bind_some]
        have := h.2.2 (j - 1) (by omega)
        simp only [show j - 1 + 1 = j by omega] at this
        rw [this, if_neg (by decide)]; exact ih
    · rw [if_neg (by simpa using hlt)]
theorem right {k : Nat} {l : List GFile} (hk : maxLen < k) (h : Right l) : pimpl_FilesOk k l = some true := by
  have hM := maxLen_eq
  have hl := h.1
  have e := right_L1 hk h k 0 (by omega) (by omega)
  rw [show ((0 : Nat) : Int) = 0 from rfl] at e
  unfold pimpl_FilesOk
  rw [e, Option.bind_some]
  simp only
  rw [decide_eq_true (by omega)]
/-- A file is put behind the others. -/
theorem right_snoc {l : List GFile} {x : GFile} (h : Right l) (hl : l.length ≤ 5) (hx : nameOk x.gName ∧ x.gText.size ≤ 3000) (hs : ∀ y ∈ l, sLt y.gName x.gName = true) : Right (l ++ [x]) := by
  refine ⟨by simp only [List.length_append, List.length_cons, List.length_nil]; omega, fun y hy => ?_, fun i hi => ?_⟩
  · rcases List.mem_append.1 hy with hy | hy
    · exact h.2.1 y hy
    · rw [List.mem_singleton.1 hy]; exact hx
  · have hi' : i + 1 < l.length + 1 := by simpa using hi
    by_cases c : i + 1 < l.length
    · rw [List.getElem_append_left (by omega), List.getElem_append_left c]
      exact h.2.2 i c
    · have e : i + 1 = l.length := by omega
      rw [List.getElem_append_left (by omega), List.getElem_append_right (by omega)]
      have : l.length ≤ i + 1 := by omega
      simp only [show i + 1 - l.length = 0 by omega, List.getElem_cons_zero]
      exact hs _ (List.getElem_mem _)
/-- A file is put ahead of the others. -/
theorem right_cons {l : List GFile} {x : GFile} (h : Right l) (hl : l.length ≤ 5) (hx : nameOk x.gName ∧ x.gText.size ≤ 3000) (hs : ∀ y ∈ l, sLt x.gName y.gName = true) : Right (x :: l) := by
  refine ⟨by simp only [List.length_cons]; omega, fun y hy => ?_, fun i hi => ?_⟩
  · rcases List.mem_cons.1 hy with rfl | hy
    · exact hx
    · exact h.2.1 y hy
  · have hi' : i + 1 < l.length + 1 := by simpa using hi
    cases i with
    | zero => simp only [List.getElem_cons_zero, List.getElem_cons_succ]; exact hs _ (List.getElem_mem _)
    | succ i => simp only [List.getElem_cons_succ]; exact h.2.2 i (by omega)
theorem first_L1 {k : Nat} {l : List GFile} {n : ByteArray} (hl : l.length ≤ 1048576) (hs : ∀ y ∈ l, sLt y.gName n = true) : ∀ (m j : Nat), j ≤ l.length → l.length - j < m → pimpl_Stored_L1 k l n m (j : Int) = some (.done (l.length : Int))
  | 0, j, h1, h2 => by omega
  | m + 1, j, h1, h2 => by
    have hM := maxLen_eq
    rw [pimpl_Stored_L1]
    by_cases hlt : j < l.length
    · rw [if_pos (by simpa using hlt), at_lt hlt, Option.bind_some, hs _ (List.getElem_mem hlt), if_pos rfl, wr_succ hlt (by omega)]
      exact first_L1 hl hs m (j + 1) (by omega) (by omega)
    · rw [if_neg (by simpa using hlt)]
      have : j = l.length := by omega
      rw [this]
theorem done_inj {α β : Type} {a b : β} (h : (some (Out.done a) : Option (Out α β)) = some (.done b)) : a = b := by injection h with h; injection h
/-- What is behind all others goes to the end. -/
theorem store_end {k : Nat} {l : List GFile} {n t : ByteArray} (hk : maxLen < k) (h : Right l) (hl : l.length ≤ 5) (hx : nameOk n ∧ t.size ≤ 3000) (hs : ∀ y ∈ l, sLt y.gName n = true) :
    pspec_Stored k l n t = some (l ++ [GFile.mk n t], true) ∧ pimpl_Stored k l n t = some (l ++ [GFile.mk n t], true) ∧ Right (l ++ [GFile.mk n t]) := by
  have hM := maxLen_eq
  have hr := right_snoc (x := GFile.mk n t) h hl hx hs
  obtain ⟨r, e1, e2, _, _, p, hp, b1, b2, f1, f2, f3, f4⟩ := stored (k := k) (l := l) (n := n) (t := t) h.ok (nameOk_fs hx.1) (by have := hx.2; unfold okFs; omega) (by omega) hk
  have g := first_L1 (k := k) (n := n) (by omega) hs k 0 (by omega) (by omega)
  rw [show ((0 : Nat) : Int) = 0 from rfl, f4] at g
  have hpl : p = l.length := by have := done_inj g; omega
  subst hpl
  have hput : put l n t l.length = l ++ [GFile.mk n t] := by unfold put; rw [List.getElem?_eq_none (Nat.le_refl _)]
  rw [hput] at f1 f3
  rw [right hk hr] at f1
  rw [right hk h] at f2
  rw [if_pos ⟨(Option.some.inj f1).symm, (Option.some.inj f2).symm⟩] at f3
  rw [f3] at e1 e2
  exact ⟨e1, e2, hr⟩
/-- What is ahead of all others goes to the front. -/
theorem store_front {k : Nat} {l : List GFile} {n t : ByteArray} (hk : maxLen < k) (h : Right l) (hl : l.length ≤ 5) (hx : nameOk n ∧ t.size ≤ 3000) (hs : ∀ y ∈ l, sLt n y.gName = true ∧ sLt y.gName n = false ∧ sEq y.gName n = false) :
    pimpl_Stored k l n t = some (GFile.mk n t :: l, true) ∧ Right (GFile.mk n t :: l) := by
  have hM := maxLen_eq
  have hr := right_cons (x := GFile.mk n t) h hl hx (fun y hy => (hs y hy).1)
  obtain ⟨r, e1, e2, _, _, p, hp, b1, b2, f1, f2, f3, f4⟩ := stored (k := k) (l := l) (n := n) (t := t) h.ok (nameOk_fs hx.1) (by have := hx.2; unfold okFs; omega) (by omega) hk
  have hput : put l n t p = GFile.mk n t :: l := by
    cases l with
    | nil =>
      have : p = 0 := by simpa using hp
      subst this; rfl
    | cons y l =>
      obtain ⟨m, rfl⟩ : ∃ m, k = m + 1 := ⟨k - 1, by omega⟩
      rw [pimpl_Stored_L1, if_pos (by simp)] at f4
      have a0 : at' (y :: l) 0 = some y := rfl
      rw [a0, Option.bind_some, (hs y (List.mem_cons_self ..)).2.1, if_neg (by decide)] at f4
      have hp0 : p = 0 := by have := done_inj f4; omega
      subst hp0
      unfold put
      simp only [List.getElem?_cons_zero]
      rw [(hs y (List.mem_cons_self ..)).2.2, if_neg (by decide)]
      rfl
  rw [hput] at f1 f3
  rw [right hk hr] at f1
  rw [right hk h] at f2
  rw [if_pos ⟨(Option.some.inj f1).symm, (Option.some.inj f2).symm⟩] at f3
  rw [f3] at e2
  exact ⟨e2, hr⟩
/-! what is read -/
def fat (l : List GFile) (n : ByteArray) : ByteArray × Bool := match l.find? (fun x => sEq x.gName n) with | some x => (x.gText, true) | none => (bs [], false)
theorem fileAt_L1 {k : Nat} {l : List GFile} {n : ByteArray} (hl : l.length ≤ 1048576) : ∀ (m j : Nat), j ≤ l.length → l.length - j < m →
    pimpl_FileAt_L1 k l n m (j : Int) = some (match (l.drop j).find? (fun x => sEq x.gName n) with | some x => .ret (x.gText, true) | none => .done ()) ∧
    pspec_FileAt_L1 k l n m (j : Int) = some (match (l.drop j).find? (fun x => sEq x.gName n) with | some x => .ret (x.gText, true) | none => .done ())
  | 0, j, h1, h2 => by omega
  | m + 1, j, h1, h2 => by
    have hM := maxLen_eq
    rw [pimpl_FileAt_L1, pspec_FileAt_L1]
    by_cases hlt : j < l.length
    · have hd : decide ((j : Int) < (l.length : Int)) = true := by simpa using hlt
      rw [if_pos hd, if_pos hd, at_lt hlt, Option.bind_some, Option.bind_some, Option.bind_some, List.drop_eq_getElem_cons hlt, List.find?_cons]
      cases sEq l[j].gName n with
      | true => exact ⟨rfl, rfl⟩
      | false =>
        simp only [Bool.false_eq_true, if_false, wr_succ hlt (show l.length ≤ maxLen by omega)]
        exact fileAt_L1 hl m (j + 1) (by omega) (by omega)
    · have hd : ¬ decide ((j : Int) < (l.length : Int)) = true := by simpa using hlt
      rw [if_neg hd, if_neg hd, List.drop_of_length_le (by omega)]
      exact ⟨rfl, rfl⟩
theorem fileAt {k : Nat} {l : List GFile} (n : ByteArray) (hl : l.length ≤ 1048576) (hk : maxLen < k) : pimpl_FileAt k l n = some (fat l n) ∧ pspec_FileAt k l n = some (fat l n) := by
  have hM := maxLen_eq
  obtain ⟨e1, e2⟩ := fileAt_L1 (k := k) (n := n) hl k 0 (by omega) (by omega)
  rw [show ((0 : Nat) : Int) = 0 from rfl, List.drop_zero] at e1 e2
  unfold pimpl_FileAt pspec_FileAt fat
  rw [e1, e2, Option.bind_some]
  cases l.find? (fun x => sEq x.gName n) <;> exact ⟨rfl, rfl⟩
theorem find_self : ∀ {l : List GFile} {x : GFile}, x ∈ l → (l.map GFile.gName).Nodup → l.find? (fun y => sEq y.gName x.gName) = some x
  | [], x, h, _ => by cases h
  | y :: l, x, h, hn => by
    rw [List.map_cons, List.nodup_cons] at hn
    rw [List.find?_cons]
    rcases List.mem_cons.1 h with rfl | h
    · rw [sEq_refl]
    · have : sEq y.gName x.gName = false := by
        cases e : sEq y.gName x.gName with
        | false => rfl
        | true => exact absurd (by rw [sEq_iff.1 e]; exact List.mem_map_of_mem h) hn.1
      rw [this]
      exact find_self h hn.2
theorem sameFiles_L1 {k : Nat} {l : List GFile} (hl : l.length ≤ 1048576) : ∀ (m j : Nat), j ≤ l.length → l.length - j < m → plaws_sameFiles_L1 k l l m (j : Int) = some (.done ())
  | 0, j, h1, h2 => by omega
  | m + 1, j, h1, h2 => by
    have hM := maxLen_eq
    rw [plaws_sameFiles_L1]
    by_cases hlt : j < l.length
    · rw [if_pos (by simpa using hlt), at_lt hlt, Option.bind_some, Option.bind_some, sEq_refl, sEq_refl, if_neg (by decide), wr_succ hlt (by omega)]
      exact sameFiles_L1 hl m (j + 1) (by omega) (by omega)
    · rw [if_neg (by simpa using hlt)]
theorem sameFiles {k : Nat} {l : List GFile} (hl : l.length ≤ 1048576) (hk : maxLen < k) : plaws_sameFiles k l l = some true := by
  have hM := maxLen_eq
  have e := sameFiles_L1 (k := k) hl k 0 (by omega) (by omega)
  rw [show ((0 : Nat) : Int) = 0 from rfl] at e
  unfold plaws_sameFiles
  rw [if_neg (by simp), e]; rfl
/-! what is drawn: files -/
def LINES : List ByteArray := (pspec_l08Lines 0).getD []
theorem l08Lines (k : Nat) : pspec_l08Lines k = some LINES := rfl
theorem lines_len : LINES.length = 29 := rfl
theorem lines_size : ∀ s ∈ LINES, s.size ≤ 60 := by decide +kernel
theorem sum_ok {a b : ByteArray} (h : a.size ≤ 1000) (g : b.size ≤ 200) : sumOk a b := by
  unfold sumOk; omega
theorem l16Text_L1 {k : Nat} : ∀ (m : Nat) (s : ByteArray) (j : Nat) (c : GL01Cur), 6 - j < m → j ≤ 5 → s.size ≤ j * 150 → CurOk c →
    ∃ s' c', pspec_l16Text_L1 k LINES m s (j : Int) c = some (.done (s', c')) ∧ s'.size ≤ 750 ∧ CurOk c'
  | 0, s, j, c, h1, h2, h3, h4 => by omega
  | m + 1, s, j, c, h1, h2, h3, h4 => by
    rw [pspec_l16Text_L1]
    obtain ⟨c1, v, e1, g1, l1, u1, _⟩ := l01Below h4 k 6
    rw [e1, obs]
    by_cases hj : (j : Int) < v
    · rw [if_pos (by simpa using hj)]
      have hv := u1 (by omega)
      obtain ⟨c2, w, e2, g2, l2, u2, _⟩ := l01Below g1 k 12
      try dsimp only
      rw [e2, obs]
      have ww : wr.i64 ((j : Int) + 1) = ((j + 1 : Nat) : Int) := by rw [wr_i64 (by omega) (by omega)]; omega
      have next : ∀ (t : ByteArray) (d : GL01Cur), t.size ≤ 150 → CurOk d → ∃ s' c', pspec_l16Text_L1 k LINES m (s ++ t) (wr.i64 ((j : Int) + 1)) d = some (.done (s', c')) ∧ s'.size ≤ 750 ∧ CurOk c' := fun t d ht hd => by
        rw [ww]
        exact l16Text_L1 m _ (j + 1) d (by omega) (by omega) (by rw [size_cat]; omega) hd
      have hsz : s.size ≤ 750 := by omega
      have so : ∀ t : ByteArray, t.size ≤ 200 → sumOk s t := fun t ht => sum_ok (by omega) ht
      dsimp only
      by_cases q0 : (w == 0) = true
      · rw [if_pos q0]
        rw [if_pos (so _ (by decide))]; exact next _ _ (by decide) g2
      rw [if_neg q0]
      by_cases q1 : (w == 1) = true
      · rw [if_pos q1]
        rw [if_pos (so _ (by decide))]
        obtain ⟨c3, t, e3, g3, ht⟩ := l01Pick g2 k (l := LINES) (by rw [lines_len]; decide)
        have hts := lines_size t ht
        have z1 : (bs [58, 45, 32, 105, 102, 40, 112, 40, 97, 41, 41, 46, 10]).size = 13 := by decide
        have z2 : (bs [46, 10, 58, 45, 32, 101, 108, 115, 101, 46, 10, 122, 40, 49, 41, 46, 10, 58, 45, 32, 101, 110, 100, 105, 102, 46, 10]).size = 27 := by decide
        try dsimp only
        rw [e3, obs, if_pos (sum_ok (by rw [size_cat]; omega) (by simp only; omega)), if_pos (sum_ok (by rw [size_cat, size_cat]; simp only; omega) (by omega))]
        have := next ((bs [58, 45, 32, 105, 102, 40, 112, 40, 97, 41, 41, 46, 10]) ++ (t ++ (bs [46, 10, 58, 45, 32, 101, 108, 115, 101, 46, 10, 122, 40, 49, 41, 46, 10, 58, 45, 32, 101, 110, 100, 105, 102, 46, 10]))) c3 (by rw [size_cat, size_cat]; omega) g3
        rw [← ByteArray.append_assoc, ← ByteArray.append_assoc] at this
        exact this
      rw [if_neg q1]
      by_cases q2 : (w == 2) = true
      · rw [if_pos q2]
        rw [if_pos (so _ (by decide))]; exact next _ _ (by decide) g2
      rw [if_neg q2]
      by_cases q3 : (w == 3) = true
      · rw [if_pos q3]
        rw [if_pos (so _ (by decide))]; exact next _ _ (by decide) g2
      rw [if_neg q3]
      by_cases q4 : (w == 4) = true
      · rw [if_pos q4]
        rw [if_pos (so _ (by decide))]; exact next _ _ (by decide) g2
      rw [if_neg q4]
      by_cases q5 : (w == 5) = true
      · rw [if_pos q5]
        rw [if_pos (so _ (by decide))]; exact next _ _ (by decide) g2
      rw [if_neg q5]
      by_cases q6 : (w == 6) = true
      · rw [if_pos q6]
        obtain ⟨c3, t, e3, g3, ht⟩ := l01Pick g2 k (l := [(bs [97, 32, 98, 46, 10]), (bs [58, 45, 32, 101, 108, 115, 101, 46, 10]), (bs [58, 45, 32, 105, 102, 40, 116, 114, 117, 101, 41, 46, 10]), (bs [58, 45, 32, 101, 110, 100, 105, 102, 46, 10]), (bs [88, 46, 10]), (bs [116, 114, 117, 101, 46, 10]), (bs [58, 45, 32, 97, 115, 115, 101, 114, 116, 122, 40, 112, 40, 110, 41, 41, 46, 10]), (bs [58, 45, 32, 105, 110, 99, 108, 117, 100, 101, 40, 110, 111, 110, 101, 41, 46, 10])]) (by decide)
        have hall : ∀ s ∈ [(bs [97, 32, 98, 46, 10]), (bs [58, 45, 32, 101, 108, 115, 101, 46, 10]), (bs [58, 45, 32, 105, 102, 40, 116, 114, 117, 101, 41, 46, 10]), (bs [58, 45, 32, 101, 110, 100, 105, 102, 46, 10]), (bs [88, 46, 10]), (bs [116, 114, 117, 101, 46, 10]), (bs [58, 45, 32, 97, 115, 115, 101, 114, 116, 122, 40, 112, 40, 110, 41, 41, 46, 10]), (bs [58, 45, 32, 105, 110, 99, 108, 117, 100, 101, 40, 110, 111, 110, 101, 41, 46, 10])], s.size ≤ 60 := by decide +kernel
        have hts := hall t ht
        try dsimp only
        rw [e3, obs]
        try dsimp only
        rw [if_pos (so _ (by omega))]
        exact next _ _ (by omega) g3
      · rw [if_neg q6]
        obtain ⟨c3, t, e3, g3, ht⟩ := l01Pick g2 k (l := LINES) (by rw [lines_len]; decide)
        have hts := lines_size t ht
        have z2 : (bs [46, 10]).size = 2 := by decide
        try dsimp only
        rw [e3, obs]
        try dsimp only
        rw [if_pos (so _ (by omega)), if_pos (sum_ok (by rw [size_cat]; omega) (by omega))]
        have := next (t ++ bs [46, 10]) c3 (by rw [size_cat]; omega) g3
        rw [← ByteArray.append_assoc] at this
        exact this
    · rw [if_neg (by simpa using hj)]
      exact ⟨_, _, rfl, by omega, g1⟩
theorem l16Text {k : Nat} {c : GL01Cur} (h : CurOk c) (hk : maxLen < k) : ∃ c' s, pspec_l16Text k c = some (c', s) ∧ CurOk c' ∧ s.size ≤ 750 := by
  have hM := maxLen_eq
  unfold pspec_l16Text
  obtain ⟨s, c', e, h1, h2⟩ := l16Text_L1 (k := k) k (bs []) 0 c (by omega) (by omega) (by decide) h
  rw [show ((0 : Nat) : Int) = 0 from rfl] at e
  rw [l08Lines, obs, e, obs]
  exact ⟨_, _, rfl, h2, h1⟩
def NAMES : List ByteArray := [(bs [111, 110, 101]), (bs [116, 119, 111]), (bs [122, 111, 111])]
theorem names_right : ∀ s ∈ NAMES, nameOk s := by decide +kernel
theorem names_up : ∀ j, j < 3 → ∀ n ∈ NAMES.take j, ∀ s, NAMES[j]? = some s → sLt n s = true ∧ n ≠ s := by
  have : ∀ j, j < 3 → ∀ n ∈ NAMES.take j, sLt n (NAMES.getD j (bs [])) = true ∧ sEq n (NAMES.getD j (bs [])) = false := by decide +kernel
  intro j hj n hn s hs
  have h := this j hj n hn
  rw [List.getD_eq_getElem?_getD, hs, Option.getD_some] at h
  refine ⟨h.1, fun e => ?_⟩
  rw [e, sEq_refl] at h
  cases h.2
theorem names_mid : ∀ s ∈ NAMES, sLt (bs [109, 105, 100, 100, 108, 101]) s = true ∧ sLt s (bs [109, 105, 100, 100, 108, 101]) = false ∧ sEq s (bs [109, 105, 100, 100, 108, 101]) = false := by decide +kernel
theorem mid_right : nameOk (bs [109, 105, 100, 100, 108, 101]) := by decide +kernel
/-- Files that were drawn. -/
structure FG (j : Nat) (l : List GFile) : Prop where
  r : Right l
  n : ∀ x ∈ l, x.gName ∈ NAMES.take j
  d : (l.map GFile.gName).Nodup
  l : l.length ≤ j
theorem l16Files_L1 {k : Nat} (hk : maxLen < k) : ∀ (m j : Nat) (l : List GFile) (c : GL01Cur), 3 - j < m → j ≤ 3 → FG j l → CurOk c → ∃ l' c', pspec_l16Files_L1 k m l (j : Int) c = some (.done (l', c')) ∧ FG 3 l' ∧ CurOk c'
  | 0, j, l, c, h1, h2, h3, h4 => by omega
  | m + 1, j, l, c, h1, h2, h3, h4 => by
    rw [pspec_l16Files_L1]
    by_cases hj : j < 3
    · have ww : wr.i64 ((j : Int) + 1) = ((j + 1 : Nat) : Int) := by rw [wr_i64 (by omega) (by omega)]; omega
      rw [if_pos (by rw [decide_eq_true_eq]; show (j : Int) < 3; omega)]
      obtain ⟨c1, b, e1, g1⟩ := l01Once h4 k 4
      rw [e1, obs]
      have more : FG (j + 1) l := ⟨h3.r, fun x hx => by
        have := h3.n x hx
        exact List.mem_of_mem_take (i := j) (by rw [List.take_take, Nat.min_eq_left (by omega)]; exact this), h3.d, by have := h3.l; omega⟩
      cases b with
      | true =>
        rw [if_neg (by simp), ww]
        exact l16Files_L1 hk m (j + 1) l _ (by omega) (by omega) more g1
      | false =>
        obtain ⟨c2, t, e2, g2, ht⟩ := l16Text g1 hk
        have hjl : j < NAMES.length := hj
        have a1 : at' [(bs [111, 110, 101]), (bs [116, 119, 111]), (bs [122, 111, 111])] (j : Int) = some NAMES[j] := at_lt (l := NAMES) hjl
        rw [if_pos (by simp), a1, obs]
        try dsimp only
        rw [e2, obs]
        have up := fun x hx => names_up j hj x.gName (h3.n x hx) NAMES[j] (List.getElem?_eq_getElem hjl)
        obtain ⟨f1, _, f3⟩ := store_end (n := NAMES[j]) (t := t) hk h3.r (by have := h3.l; omega) ⟨names_right _ (List.getElem_mem hjl), by omega⟩ (fun y hy => (up y hy).1)
        try dsimp only
        rw [f1, obs, ww]
        refine l16Files_L1 hk m (j + 1) _ _ (by omega) (by omega) ⟨f3, fun x hx => ?_, ?_, by have := h3.l; simp only [List.length_append, List.length_cons, List.length_nil]; omega⟩ g2
        · rcases List.mem_append.1 hx with hx | hx
          · exact more.n x hx
          · rw [List.mem_singleton.1 hx]
            show NAMES[j] ∈ _
            rw [List.take_succ_eq_append_getElem hjl]
            exact List.mem_append_right _ (List.mem_singleton.2 rfl)
        · rw [List.map_append, List.nodup_append]
          refine ⟨h3.d, by simp, fun a ha b hb => ?_⟩
          obtain ⟨y, hy, rfl⟩ := List.mem_map.1 ha
          have : b = NAMES[j] := by simpa using hb
          rw [this]
          exact (up y hy).2
    · rw [if_neg (by rw [decide_eq_true_eq]; show ¬ (j : Int) < 3; omega)]
      have : j = 3 := by omega
      subst this
      exact ⟨_, _, rfl, h3, h4⟩
theorem l16Files {k : Nat} {c : GL01Cur} (h : CurOk c) (hk : maxLen < k) : ∃ c' l, pspec_l16Files k c = some (c', l) ∧ CurOk c' ∧ FG 3 l := by
  have hM := maxLen_eq
  unfold pspec_l16Files
  obtain ⟨l, c', e, h1, h2⟩ := l16Files_L1 hk k 0 [] c (by omega) (by omega) ⟨⟨by simp, by simp, by simp⟩, by simp, by simp, by simp⟩ h
  rw [show ((0 : Nat) : Int) = 0 from rfl] at e
  rw [e, obs]
  exact ⟨_, _, rfl, h2, h1⟩
theorem l01Long_L1 {k : Nat} {n v : Int} (hn : n ≤ 5000) : ∀ (m j : Nat) (l : List Int), 5000 - j < m → j ≤ 5000 → (l.length : Int) = n → ∃ l', pspec_l01Long_L1 k n v m l (j : Int) = some (.done l') ∧ (l'.length : Int) = n
  | 0, j, l, h1, h2, h3 => by omega
  | m + 1, j, l, h1, h2, h3 => by
    rw [pspec_l01Long_L1]
    by_cases hj : (j : Int) < n
    · rw [if_pos (by simpa using hj), at_lt (show j < l.length by omega), obs, wr_i64 (by omega) (by omega), show (j : Int) + 1 = ((j + 1 : Nat) : Int) by omega]
      exact l01Long_L1 hn m (j + 1) _ (by omega) (by omega) (by rw [List.length_set]; exact h3)
    · rw [if_neg (by simpa using hj)]
      exact ⟨_, rfl, h3⟩
theorem strOfNums_size (l : List Int) : (strOfNums l).size = l.length := by
  unfold strOfNums
  simp [ByteArray.size]
theorem l01Long {k : Nat} {n v : Int} (h0 : 0 ≤ n) (hn : n ≤ 5000) (hk : maxLen < k) : ∃ s, pspec_l01Long k n v = some s ∧ s.size ≤ 5000 := by
  have hM := maxLen_eq
  unfold pspec_l01Long
  rw [if_pos ⟨h0, by omega⟩]
  obtain ⟨l, e, hl⟩ := l01Long_L1 (k := k) (v := v) hn k 0 (List.replicate n.toNat 0) (by omega) (by omega) (by rw [List.length_replicate]; omega)
  rw [show ((0 : Nat) : Int) = 0 from rfl] at e
  rw [e, obs]
  exact ⟨_, rfl, by rw [strOfNums_size]; omega⟩
def FA (l : List GFile) : Prop := l.length ≤ 4 ∧ okL GFile.ok l
theorem l16Any {k : Nat} {c : GL01Cur} (h : CurOk c) (hk : maxLen < k) : ∃ c' l, pspec_l16Any k c = some (c', l) ∧ FA l := by
  have hM := maxLen_eq
  unfold pspec_l16Any
  obtain ⟨c1, v, e1, h1, l1, u1, _⟩ := l01Below h k 10
  obtain ⟨c2, l, e2, h2, h3⟩ := l16Files h1 hk
  have hl := h3.l
  have ho := h3.r.ok
  have add : ∀ n t, n.size ≤ 10000 → t.size ≤ 10000 → FA (l ++ [GFile.mk n t]) := fun n t a b => ⟨by simp only [List.length_append, List.length_cons, List.length_nil]; omega, by simp only [List.length_append, List.length_cons, List.length_nil]; omega, fun x hx => by
    rcases List.mem_append.1 hx with hx | hx
    · exact ho.2 x hx
    · rw [List.mem_singleton.1 hx]; exact ⟨by unfold okFs; simp only; omega, by unfold okFs; simp only; omega⟩⟩
  rw [e1, obs]
  try dsimp only
  rw [e2, obs]
  try dsimp only
  rw [if_pos (by simp only [List.length_nil]; omega)]
  split
  · obtain ⟨c3, s, e3, h4, hs⟩ := l01Pick h2 k (l := [(bs [97]), (bs [122, 122, 122]), (bs [65]), (bs [])]) (by decide)
    have hall : ∀ s ∈ [(bs [97]), (bs [122, 122, 122]), (bs [65]), (bs [])], s.size ≤ 10 := by decide
    have := hall s hs
    try dsimp only
    rw [e3, obs, if_pos (by simp only [List.length_cons, List.length_nil]; omega)]
    exact ⟨_, _, rfl, add _ _ (by simp only; omega) (by decide)⟩
  split
  · obtain ⟨c3, w, e3, h4, l4, u4, _⟩ := l01Below h2 k 2
    have hw := u4 (by omega)
    obtain ⟨s, e4, hs⟩ := l01Long (k := k) (n := wr.i64 (3000 + w)) (v := 32) (by rw [wr_i64 (by omega) (by omega)]; omega) (by rw [wr_i64 (by omega) (by omega)]; omega) hk
    try dsimp only
    rw [e3, obs]
    try dsimp only
    rw [e4, obs, if_pos (by simp only [List.length_cons, List.length_nil]; omega)]
    exact ⟨_, _, rfl, add _ _ (by decide) (by omega)⟩
  · exact ⟨_, _, rfl, by omega, ho⟩
/-! the law -/
theorem fat_eq (x : GFile) (l : List GFile) : fat (x :: l) x.gName = (x.gText, true) := by
  unfold fat
  rw [List.find?_cons, sEq_refl]
theorem fat_ne {x : GFile} {l : List GFile} {n : ByteArray} (h : sEq x.gName n = false) : fat (x :: l) n = fat l n := by
  unfold fat
  rw [List.find?_cons, h]
theorem fat_self {x : GFile} {l : List GFile} (h : x ∈ l) (hn : (l.map GFile.gName).Nodup) : fat l x.gName = (x.gText, true) := by
  unfold fat
  rw [find_self h hn]
theorem own_L1 {k : Nat} (hk : maxLen < k) {l : List GFile} {r : List GFile × Bool} (hl : l.length ≤ 1048576) (hr : r.1.length ≤ 1048576) (hf : ∀ x ∈ l, fat r.1 x.gName = (x.gText, true)) : ∀ (m j : Nat), j ≤ l.length → l.length - j < m → plaws_FnFiles_L1 k l r m (j : Int) = some (.done ())
  | 0, j, h1, h2 => by omega
  | m + 1, j, h1, h2 => by
    have hM := maxLen_eq
    rw [plaws_FnFiles_L1]
    by_cases hlt : j < l.length
    · rw [if_pos (by simpa using hlt)]
      split
      · rw [at_lt hlt, obs, (fileAt _ hr hk).1, obs, hf _ (List.getElem_mem hlt), obs]
        simp only
        rw [if_neg (by decide), sEq_refl, if_neg (by decide), wr_succ hlt (by omega)]
        exact own_L1 hk hl hr hf m (j + 1) (by omega) (by omega)
      · rfl
    · rw [if_neg (by simpa using hlt)]
theorem law (a : List Int) (ha : okL (okI .u8) a) : ∃ k, plaws_FnFiles k a = some true := by
  obtain ⟨k, hk0⟩ : ∃ k, maxLen + 1099511627776 < k := ⟨_, Nat.lt_succ_self _⟩
  refine ⟨k, ?_⟩
  have hM := maxLen_eq
  have hk : maxLen < k := Nat.lt_of_le_of_lt (Nat.le_add_right _ _) hk0
  clear hk0
  unfold plaws_FnFiles plaws_big
  rw [obs]
  by_cases hb : (a.length : Int) > 1048576
  · rw [if_pos (by simpa using hb)]
  rw [if_neg (by simpa using hb)]
  have hl : a.length ≤ 1048576 := by omega
  obtain ⟨c, e1, h1⟩ := l01New (k := k) hl hk
  obtain ⟨c1, l, e2, h2, h3⟩ := l16Files h1 hk
  have d1 : pspec_DrawFiles k a = some l := by unfold pspec_DrawFiles; rw [e1, obs, e2, obs]
  have ll := h3.l
  obtain ⟨s1, s2⟩ := store_front (n := bs [109, 105, 100, 100, 108, 101]) (t := bs [115, 97, 105, 100]) hk h3.r (by omega) ⟨mid_right, by decide⟩ (fun y hy => names_mid _ (List.mem_of_mem_take (h3.n y hy)))
  have fm : fat (GFile.mk (bs [109, 105, 100, 100, 108, 101]) (bs [115, 97, 105, 100]) :: l) (bs [109, 105, 100, 100, 108, 101]) = (bs [115, 97, 105, 100], true) := fat_eq (GFile.mk (bs [109, 105, 100, 100, 108, 101]) (bs [115, 97, 105, 100])) l
  have fx : ∀ x ∈ l, fat (GFile.mk (bs [109, 105, 100, 100, 108, 101]) (bs [115, 97, 105, 100]) :: l) x.gName = (x.gText, true) := fun x hx => by
    have := (names_mid _ (List.mem_of_mem_take (h3.n x hx))).2.2
    rw [sEq_comm2] at this
    exact (fat_ne this).trans (fat_self hx h3.d)
  obtain ⟨c2, n2, e3, h4, hn2⟩ := l01Pick h1 k (l := [(bs [111, 110, 101]), (bs [112]), (bs [122, 122, 122, 122]), (bs [66])]) (by decide)
  obtain ⟨c3, l2, e4, h5⟩ := l16Any h4 hk
  have d2 : pspec_DrawStored k a = some (l2, n2, (bs [112, 40, 122, 41, 46, 10])) := by unfold pspec_DrawStored; rw [e1, obs, e3, obs]; simp only; rw [e4, obs]
  have n2s : n2.size ≤ 10 := by
    have : ∀ s ∈ [(bs [111, 110, 101]), (bs [112]), (bs [122, 122, 122, 122]), (bs [66])], s.size ≤ 10 := by decide
    exact this _ hn2
  have l2l := h5.1
  obtain ⟨r, f1, f2, f3, _⟩ := stored (k := k) (n := n2) (t := bs [112, 40, 122, 41, 46, 10]) h5.2 (by unfold okFs; omega) (by unfold okFs; decide) (by omega) hk
  obtain ⟨b, g1, g2⟩ := filesOk h5.2 hk
  obtain ⟨c4, n4, e5, h6, hn4⟩ := l01Pick h1 k (l := [(bs [111, 110, 101]), (bs [116, 119, 111]), (bs [110, 111, 110, 101])]) (by decide)
  obtain ⟨c5, l4, e6, h7⟩ := l16Any h6 hk
  have d3 : pspec_DrawFileAt k a = some (l4, n4) := by unfold pspec_DrawFileAt; rw [e1, obs, e5, obs]; simp only; rw [e6, obs]
  have l4l := h7.1
  have q1 := fileAt (bs [109, 105, 100, 100, 108, 101]) (k := k) (l := GFile.mk (bs [109, 105, 100, 100, 108, 101]) (bs [115, 97, 105, 100]) :: l) (by simp only [List.length_cons]; omega) hk
  have q2 := fileAt n4 (k := k) (l := l4) (by omega) hk
  have q3 := own_L1 (r := (GFile.mk (bs [109, 105, 100, 100, 108, 101]) (bs [115, 97, 105, 100]) :: l, true)) hk (by omega) (by simp only [List.length_cons]; omega) fx k 0 (by omega) (by omega)
  rw [show ((0 : Nat) : Int) = 0 from rfl] at q3
  have q4 := sameFiles (k := k) (l := r.1) (by omega) hk
  rw [fm] at q1
  simp only [d1, s1, q1.1, q3, d2, f1, f2, d3, q2.1, q2.2, right hk s2, q4, g1, g2, sEq_refl, obs, if_true, beq_self_eq_true]
end FnFiles
end Go.Proofs.Ythemaodhckmnkaa

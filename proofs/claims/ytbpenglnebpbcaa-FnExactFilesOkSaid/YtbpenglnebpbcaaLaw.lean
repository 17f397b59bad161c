/- The law, plainly. -/
import Derived.Test.YtbpenglnebpbcaaFn
set_option linter.unusedVariables false
set_option linter.unusedSimpArgs false
namespace Go.Proofs.Ytbpenglnebpbcaa
open Go.RowKit Go.Av
namespace FnExactFilesOk
theorem toFileS_L1 (k : Nat) (l : List GFile) (hl : l.length ≤ maxLen) : ∀ (m n : Nat) (o : List GFile), n ≤ l.length → l.length - n < m → o.length = l.length → o.take n = l.take n → plaws_toFileS_L1 k l m (n : Int) o = some (.done l)
  | 0, n, o, h1, h2, h3, h4 => by omega
  | m + 1, n, o, h1, h2, h3, h4 => by
    unfold plaws_toFileS_L1
    by_cases hlt : n < l.length
    · rw [if_pos (by simpa using hlt), at_lt hlt]
      simp only [Option.bind_some, plaws_toFile]
      rw [if_pos ⟨by omega, by simpa [h3] using hlt⟩, wr_succ hlt hl]
      refine toFileS_L1 k l hl m (n + 1) _ (by omega) (by omega) (by simp [h3]) ?_
      simp only [Int.toNat_natCast]
      apply List.ext_getElem?
      intro j
      rw [List.getElem?_take, List.getElem?_take]
      by_cases hj : j < n + 1
      · rw [if_pos hj, if_pos hj, List.getElem?_set]
        by_cases hjn : n = j
        · subst hjn
          rw [if_pos rfl, if_pos (by omega), List.getElem?_eq_getElem hlt]
        · rw [if_neg hjn]
          have := congrArg (fun q => q[j]?) h4
          simpa [List.getElem?_take, show j < n by omega] using this
      · rw [if_neg hj, if_neg hj]
    · rw [if_neg (by simpa using hlt)]
      have hn : n = l.length := by omega
      subst hn
      rw [List.take_length, ← h3, List.take_length] at h4
      rw [h4]

theorem toFileS {k : Nat} {l : List GFile} (hl : l.length ≤ 1048576) (hk : l.length < k) : plaws_toFileS k l = some l := by
  unfold plaws_toFileS
  rw [if_pos ⟨by omega, by omega⟩]
  have := toFileS_L1 k l (by rw [maxLen_eq]; omega) k 0 (List.replicate ((l.length : Int)).toNat (GFile.mk (bs []) (bs []))) (by omega) (by omega) (by simp) (by simp)
  rw [show ((0 : Nat) : Int) = 0 from rfl] at this
  rw [this]; rfl

theorem szFile (k : Nat) (x : GFile) (hx : x.ok) (b : Int) (h0 : 0 ≤ b) (h1 : b ≤ 1048576) : ∃ r, plaws_szFile k x b = some r ∧ r ≤ b ∧ -1 ≤ r := by
  obtain ⟨hx1, hx2⟩ := hx
  unfold okS at hx1 hx2
  rw [maxLen_eq] at hx1 hx2
  unfold plaws_szFile
  rw [wr_i64 (by omega) (by omega)]
  split
  · exact ⟨_, rfl, by omega, by omega⟩
  · rename_i h
    simp at h
    rw [wr_i64 (by omega) (by omega)]
    split
    · exact ⟨_, rfl, by omega, by omega⟩
    · rename_i h; simp at h; exact ⟨_, rfl, by omega, by omega⟩

theorem szFileS_L1 (k : Nat) (l : List GFile) (hl : l.length ≤ maxLen) (ho : ∀ x ∈ l, x.ok) : ∀ (m n : Nat) (b : Int), n ≤ l.length → l.length - n < m → 0 ≤ b → b ≤ 1048576 →
    ∃ r, plaws_szFileS_L1 k l m b (n : Int) = some r ∧ (match r with | .ret r => r < 0 | .done b' => 0 ≤ b' ∧ b' ≤ b)
  | 0, n, b, h1, h2, h3, h4 => by omega
  | m + 1, n, b, h1, h2, h3, h4 => by
    unfold plaws_szFileS_L1
    by_cases hlt : n < l.length
    · rw [if_pos (by simpa using hlt), at_lt hlt]
      simp only [Option.bind_some]
      obtain ⟨r, hr, hr1, hr2⟩ := szFile k l[n] (ho _ (List.getElem_mem hlt)) b h3 h4
      rw [hr]
      simp only [Option.bind_some]
      split
      · exact ⟨_, rfl, by simp⟩
      · rename_i h
        simp at h
        rw [wr_succ hlt hl]
        obtain ⟨r', h5, h6⟩ := szFileS_L1 k l hl ho m (n + 1) r (by omega) (by omega) h (by omega)
        refine ⟨r', h5, ?_⟩
        cases r' with
        | ret r => exact h6
        | done b' => exact ⟨h6.1, by have := h6.2; omega⟩
    · rw [if_neg (by simpa using hlt)]
      exact ⟨_, rfl, h3, Int.le_refl _⟩

/-- The sizes are told; where there is room, the list is short. -/
theorem szFileS {k : Nat} {l : List GFile} (hl : okL GFile.ok l) (hk : l.length < k) : ∃ r, plaws_szFileS k l 1048576 = some r ∧ (0 ≤ r → l.length ≤ 1048576) := by
  obtain ⟨hl, ho⟩ := hl
  have hm := hl
  rw [maxLen_eq] at hm
  unfold plaws_szFileS
  rw [wr_i64 (by omega) (by omega)]
  split
  · exact ⟨_, rfl, by omega⟩
  · rename_i h
    simp at h
    obtain ⟨r, h1, h2⟩ := szFileS_L1 k l hl ho k 0 (1048576 - (l.length : Int)) (by omega) (by omega) (by omega) (by omega)
    rw [show ((0 : Nat) : Int) = 0 from rfl] at h1
    rw [h1]
    cases r with
    | ret r => exact ⟨r, rfl, fun _ => by omega⟩
    | done b => exact ⟨b, rfl, fun _ => by omega⟩

theorem eqFile (k : Nat) (x : GFile) : plaws_eqFile k x x = some true := by
  unfold plaws_eqFile
  simp [sEq_refl]

theorem eqFileS_L1 (k : Nat) (l : List GFile) (hl : l.length ≤ maxLen) : ∀ (m n : Nat), n ≤ l.length → l.length - n < m → plaws_eqFileS_L1 k l l m (n : Int) = some (.done ())
  | 0, n, h1, h2 => by omega
  | m + 1, n, h1, h2 => by
    unfold plaws_eqFileS_L1
    by_cases hlt : n < l.length
    · rw [if_pos (by simpa using hlt), at_lt hlt]
      simp only [Option.bind_some, eqFile]
      rw [if_neg (by simp), wr_succ hlt hl]
      exact eqFileS_L1 k l hl m (n + 1) (by omega) (by omega)
    · rw [if_neg (by simpa using hlt)]

theorem eqFileS {k : Nat} {l : List GFile} (hl : l.length ≤ maxLen) (hk : l.length < k) : plaws_eqFileS k l l = some true := by
  unfold plaws_eqFileS
  have := eqFileS_L1 k l hl k 0 (by omega) (by omega)
  rw [show ((0 : Nat) : Int) = 0 from rfl] at this
  rw [if_neg (by simp), this]; rfl

/-- A small letter stands there. -/
def low (s : ByteArray) (i : Nat) : Prop := 97 ≤ bt s (i : Int) ∧ bt s (i : Int) ≤ 122
/-- A file's name: one to eight small letters. -/
def nameOk (s : ByteArray) : Prop := (∀ i, i < s.size → low s i) ∧ 1 ≤ s.size ∧ s.size ≤ 8
instance (s : ByteArray) (i : Nat) : Decidable (low s i) := by unfold low; infer_instance
instance (s : ByteArray) : Decidable (nameOk s) := by unfold nameOk; infer_instance

theorem l05Small (k : Nat) (s : ByteArray) (i : Nat) : pspec_l05Small k (bt s (i : Int)) = some (decide (low s i)) := by
  unfold pspec_l05Small low
  by_cases h : 97 ≤ bt s (i : Int)
  · rw [if_pos (by simpa using h)]; simp [h]
  · rw [if_neg (by simpa using h)]; simp [h]

theorem lower (k : Nat) (s : ByteArray) (i : Nat) : pimpl_lower k (bt s (i : Int)) = some (decide (low s i)) := by
  unfold pimpl_lower low
  by_cases h : 97 ≤ bt s (i : Int)
  · rw [if_pos (by simpa using h)]; simp [h]
  · rw [if_neg (by simpa using h)]; simp [h]

theorem l01In (k : Nat) (x a b : Int) : pspec_l01In k x a b = some (decide (a ≤ x ∧ x ≤ b)) := by
  unfold pspec_l01In
  by_cases h : a ≤ x
  · rw [if_pos (by simpa using h)]; simp [h]
  · rw [if_neg (by simpa using h)]; simp [h]

theorem within (k : Nat) (x a b : Int) : pimpl_within k x a b = some (decide (a ≤ x ∧ x ≤ b)) := by
  unfold pimpl_within
  by_cases h : a ≤ x
  · rw [if_pos (by simpa using h)]; simp [h]
  · rw [if_neg (by simpa using h)]; simp [h]

theorem l16Name_L1 (k : Nat) (s : ByteArray) (hs : s.size ≤ maxLen) : ∀ (m n : Nat), n ≤ s.size → s.size - n < m →
    ∃ o, pspec_l16Name_L1 k s m (n : Int) = some o ∧ (match o with | .ret r => r = false ∧ ∃ i, i < s.size ∧ ¬ low s i | .done _ => ∀ i, n ≤ i → i < s.size → low s i)
  | 0, n, h1, h2 => by omega
  | m + 1, n, h1, h2 => by
    unfold pspec_l16Name_L1
    by_cases hlt : n < s.size
    · rw [if_pos (by simpa using hlt), if_pos ⟨by omega, by simpa using hlt⟩, l05Small]
      simp only [Option.bind_some]
      by_cases hl : low s n
      · rw [if_neg (by simp [hl]), wr_succ hlt hs]
        obtain ⟨o, h3, h4⟩ := l16Name_L1 k s hs m (n + 1) (by omega) (by omega)
        refine ⟨o, h3, ?_⟩
        cases o with
        | ret r => exact h4
        | done u =>
          intro i hi1 hi2
          by_cases e : i = n
          · subst e; exact hl
          · exact h4 i (by omega) hi2
      · rw [if_pos (by simp [hl])]
        exact ⟨_, rfl, rfl, n, hlt, hl⟩
    · rw [if_neg (by simpa using hlt)]
      exact ⟨_, rfl, fun i h3 h4 => by omega⟩

theorem l16Name {k : Nat} {s : ByteArray} (hs : s.size ≤ maxLen) (hk : maxLen < k) : pspec_l16Name k s = some (decide (nameOk s)) := by
  unfold pspec_l16Name
  obtain ⟨o, h1, h2⟩ := l16Name_L1 k s hs k 0 (by omega) (by omega)
  rw [show ((0 : Nat) : Int) = 0 from rfl] at h1
  rw [h1]
  cases o with
  | ret r =>
    obtain ⟨rfl, i, h3, h4⟩ := h2
    have : ¬ nameOk s := fun h => h4 (h.1 i h3)
    simp [this]
  | done u =>
    simp only [Option.bind_some]
    rw [l01In]
    simp only [Option.bind_some]
    have : (∀ i, i < s.size → low s i) := fun i hi => h2 i (by omega) hi
    congr 1
    rw [decide_eq_decide]
    unfold nameOk
    constructor
    · intro h; exact ⟨this, by omega, by omega⟩
    · intro h; obtain ⟨_, h5, h6⟩ := h; omega

theorem run_L1 (k : Nat) (s : ByteArray) (hs : s.size ≤ maxLen) : ∀ (m n : Nat), n ≤ s.size → s.size - n < m →
    ∃ j : Nat, pimpl_run_on2_pimpl_lower_L1 k s m (n : Int) = some (.done (j : Int)) ∧ n ≤ j ∧ j ≤ s.size ∧ (∀ i, n ≤ i → i < j → low s i) ∧ (j < s.size → ¬ low s j)
  | 0, n, h1, h2 => by omega
  | m + 1, n, h1, h2 => by
    unfold pimpl_run_on2_pimpl_lower_L1
    by_cases hlt : n < s.size
    · rw [if_pos (by simpa using hlt), if_pos ⟨by omega, by simpa using hlt⟩, lower]
      simp only [Option.bind_some]
      by_cases hl : low s n
      · rw [if_pos (by simp [hl]), wr_succ hlt hs]
        obtain ⟨j, h3, h4, h5, h6, h7⟩ := run_L1 k s hs m (n + 1) (by omega) (by omega)
        refine ⟨j, h3, by omega, h5, fun i hi1 hi2 => ?_, h7⟩
        by_cases e : i = n
        · subst e; exact hl
        · exact h6 i (by omega) hi2
      · rw [if_neg (by simp [hl])]
        exact ⟨n, rfl, by omega, by omega, fun i h3 h4 => by omega, fun _ => hl⟩
    · rw [if_neg (by simpa using hlt)]
      exact ⟨n, rfl, by omega, by omega, fun i h3 h4 => by omega, fun h => absurd h hlt⟩

theorem fileName {k : Nat} {s : ByteArray} (hs : s.size ≤ maxLen) (hk : maxLen < k) : pimpl_fileName k s = some (decide (nameOk s)) := by
  unfold pimpl_fileName
  rw [within]
  simp only [Option.bind_some]
  by_cases hz : (1 : Int) ≤ (s.size : Int) ∧ (s.size : Int) ≤ 8
  · rw [if_pos (by simpa using hz)]
    unfold pimpl_run_on2_pimpl_lower
    obtain ⟨j, h1, h2, h3, h4, h5⟩ := run_L1 k s hs k 0 (by omega) (by omega)
    rw [show ((0 : Nat) : Int) = 0 from rfl] at h1
    rw [h1]
    simp only [Option.bind_some]
    congr 1
    by_cases hj : j = s.size
    · subst hj
      have : nameOk s := ⟨fun i hi => h4 i (by omega) hi, by omega, by omega⟩
      simp [this]
    · have : ¬ nameOk s := fun h => h5 (by omega) (h.1 j (by omega))
      have h6 : ((j : Int) == (s.size : Int)) = false := by
        rw [beq_eq_false_iff_ne]; omega
      rw [h6]; simp [this]
  · rw [if_neg (by simpa using hz)]
    have : ¬ nameOk s := fun h => hz ⟨by have := h.2.1; omega, by have := h.2.2; omega⟩
    simp [this]
theorem sub_one {n : Nat} (h : 0 < n) (hm : n ≤ maxLen) : wr.i64 ((n : Int) - 1) = ((n - 1 : Nat) : Int) := by
  rw [maxLen_eq] at hm
  rw [wr_i64 (by omega) (by omega)]
  omega

theorem filesOk_L1 (k : Nat) (hk : maxLen < k) (l : List GFile) (hl : l.length ≤ maxLen) (ho : ∀ x ∈ l, x.ok) : ∀ (m n : Nat), n ≤ l.length → l.length - n < m →
    ∃ o, pspec_FilesOk_L1 k l m (n : Int) = some o ∧ pimpl_FilesOk_L1 k l m (n : Int) = some o
  | 0, n, h1, h2 => by omega
  | m + 1, n, h1, h2 => by
    unfold pspec_FilesOk_L1 pimpl_FilesOk_L1
    by_cases hlt : n < l.length
    · have hx := ho _ (List.getElem_mem hlt)
      have ih := filesOk_L1 k hk l hl ho m (n + 1) (by omega) (by omega)
      have hd : decide ((n : Int) < (l.length : Int)) = true := by simpa using hlt
      rw [if_pos hd, if_pos hd]
      simp only [at_lt hlt, Option.bind_some, l16Name hx.1 hk, fileName hx.1 hk, wr_succ hlt hl]
      split
      · exact ⟨_, rfl, rfl⟩
      · split
        · exact ⟨_, rfl, rfl⟩
        · split
          · rename_i hn
            have hn' : 0 < n := by simpa using hn
            rw [sub_one hn' (by omega), at_lt (show n - 1 < l.length by omega)]
            simp only [Option.bind_some]
            split
            · exact ⟨_, rfl, rfl⟩
            · exact ih
          · exact ih
    · have hd : ¬ decide ((n : Int) < (l.length : Int)) = true := by simpa using hlt
      rw [if_neg hd, if_neg hd]
      exact ⟨_, rfl, rfl⟩

theorem filesOk {k : Nat} {l : List GFile} (hl : okL GFile.ok l) (hk : maxLen < k) : ∃ b, pspec_FilesOk k l = some b ∧ pimpl_FilesOk k l = some b := by
  unfold pspec_FilesOk pimpl_FilesOk
  obtain ⟨o, h1, h2⟩ := filesOk_L1 k hk l hl.1 hl.2 k 0 (by omega) (by have := hl.1; omega)
  rw [show ((0 : Nat) : Int) = 0 from rfl] at h1 h2
  rw [h1, h2]
  cases o with
  | ret r => exact ⟨r, rfl, rfl⟩
  | done u => exact ⟨_, rfl, rfl⟩

theorem law (l : List GFile) (hl : okL GFile.ok l) : ∃ k, plaws_FnExactFilesOk k l = some true := by
  refine ⟨maxLen + 1, ?_⟩
  have hk : maxLen < maxLen + 1 := Nat.lt_succ_self _
  have hk' : l.length < maxLen + 1 := Nat.lt_succ_of_le hl.1
  unfold plaws_FnExactFilesOk
  obtain ⟨r, h1, h2⟩ := szFileS hl hk'
  rw [h1]
  simp only [Option.bind_some]
  split
  · rfl
  · rename_i h3
    have h4 := h2 (by simpa using h3)
    obtain ⟨b, h5, h6⟩ := filesOk hl hk
    simp only [toFileS h4 hk', Option.bind_some, h5, h6, eqFileS hl.1 hk']
    simp
end FnExactFilesOk
end Go.Proofs.Ytbpenglnebpbcaa

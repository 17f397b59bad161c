/- The law, plainly. -/
import Derived.Test.YtbpenglnebpbcaaFn
set_option linter.unusedVariables false
set_option linter.unusedSimpArgs false
namespace Go.Proofs.Ytbpenglnebpbcaa
open Go.RowKit Go.Av
namespace FnExactRequestOk
/-- A small letter stands there. -/
def low (s : ByteArray) (i : Nat) : Prop := 97 ≤ bt s (i : Int) ∧ bt s (i : Int) ≤ 122
/-- A file's name: one to eight small letters. -/
def nameOk (s : ByteArray) : Prop := (∀ i, i < s.size → low s i) ∧ 1 ≤ s.size ∧ s.size ≤ 8
instance (s : ByteArray) (i : Nat) : Decidable (low s i) := by unfold low; infer_instance
instance (s : ByteArray) : Decidable (nameOk s) := by unfold nameOk; infer_instance

theorem l05Small (k : Nat) (s : ByteArray) (i : Nat) : pspec_l05Small k (bt s (i : Int)) = some (decide (low s i)) := by
  unfold pspec_l05Small low
  by_cases h : 97 ≤ bt s (i : Int)
  · rw [if_pos (by simpa using h)]; simp [h]
  · rw [if_neg (by simpa using h)]; simp [h]

theorem lower (k : Nat) (s : ByteArray) (i : Nat) : pimpl_lower k (bt s (i : Int)) = some (decide (low s i)) := by
  unfold pimpl_lower low
  by_cases h : 97 ≤ bt s (i : Int)
  · rw [if_pos (by simpa using h)]; simp [h]
  · rw [if_neg (by simpa using h)]; simp [h]

theorem l01In (k : Nat) (x a b : Int) : pspec_l01In k x a b = some (decide (a ≤ x ∧ x ≤ b)) := by
  unfold pspec_l01In
  by_cases h : a ≤ x
  · rw [if_pos (by simpa using h)]; simp [h]
  · rw [if_neg (by simpa using h)]; simp [h]

theorem within (k : Nat) (x a b : Int) : pimpl_within k x a b = some (decide (a ≤ x ∧ x ≤ b)) := by
  unfold pimpl_within
  by_cases h : a ≤ x
  · rw [if_pos (by simpa using h)]; simp [h]
  · rw [if_neg (by simpa using h)]; simp [h]

theorem l16Name_L1 (k : Nat) (s : ByteArray) (hs : s.size ≤ maxLen) : ∀ (m n : Nat), n ≤ s.size → s.size - n < m →
    ∃ o, pspec_l16Name_L1 k s m (n : Int) = some o ∧ (match o with | .ret r => r = false ∧ ∃ i, i < s.size ∧ ¬ low s i | .done _ => ∀ i, n ≤ i → i < s.size → low s i)
  | 0, n, h1, h2 => by omega
  | m + 1, n, h1, h2 => by
    unfold pspec_l16Name_L1
    by_cases hlt : n < s.size
    · rw [if_pos (by simpa using hlt), if_pos ⟨by omega, by simpa using hlt⟩, l05Small]
      simp only [Option.bind_some]
      by_cases hl : low s n
      · rw [if_neg (by simp [hl]), wr_succ hlt hs]
        obtain ⟨o, h3, h4⟩ := l16Name_L1 k s hs m (n + 1) (by omega) (by omega)
        refine ⟨o, h3, ?_⟩
        cases o with
        | ret r => exact h4
        | done u =>
          intro i hi1 hi2
          by_cases e : i = n
          · subst e; exact hl
          · exact h4 i (by omega) hi2
      · rw [if_pos (by simp [hl])]
        exact ⟨_, rfl, rfl, n, hlt, hl⟩
    · rw [if_neg (by simpa using hlt)]
      exact ⟨_, rfl, fun i h3 h4 => by omega⟩

theorem l16Name {k : Nat} {s : ByteArray} (hs : s.size ≤ maxLen) (hk : maxLen < k) : pspec_l16Name k s = some (decide (nameOk s)) := by
  unfold pspec_l16Name
  obtain ⟨o, h1, h2⟩ := l16Name_L1 k s hs k 0 (by omega) (by omega)
  rw [show ((0 : Nat) : Int) = 0 from rfl] at h1
  rw [h1]
  cases o with
  | ret r =>
    obtain ⟨rfl, i, h3, h4⟩ := h2
    have : ¬ nameOk s := fun h => h4 (h.1 i h3)
    simp [this]
  | done u =>
    simp only [Option.bind_some]
    rw [l01In]
    simp only [Option.bind_some]
    have : (∀ i, i < s.size → low s i) := fun i hi => h2 i (by omega) hi
    congr 1
    rw [decide_eq_decide]
    unfold nameOk
    constructor
    · intro h; exact ⟨this, by omega, by omega⟩
    · intro h; obtain ⟨_, h5, h6⟩ := h; omega

theorem run_L1 (k : Nat) (s : ByteArray) (hs : s.size ≤ maxLen) : ∀ (m n : Nat), n ≤ s.size → s.size - n < m →
    ∃ j : Nat, pimpl_run_on2_pimpl_lower_L1 k s m (n : Int) = some (.done (j : Int)) ∧ n ≤ j ∧ j ≤ s.size ∧ (∀ i, n ≤ i → i < j → low s i) ∧ (j < s.size → ¬ low s j)
  | 0, n, h1, h2 => by omega
  | m + 1, n, h1, h2 => by
    unfold pimpl_run_on2_pimpl_lower_L1
    by_cases hlt : n < s.size
    · rw [if_pos (by simpa using hlt), if_pos ⟨by omega, by simpa using hlt⟩, lower]
      simp only [Option.bind_some]
      by_cases hl : low s n
      · rw [if_pos (by simp [hl]), wr_succ hlt hs]
        obtain ⟨j, h3, h4, h5, h6, h7⟩ := run_L1 k s hs m (n + 1) (by omega) (by omega)
        refine ⟨j, h3, by omega, h5, fun i hi1 hi2 => ?_, h7⟩
        by_cases e : i = n
        · subst e; exact hl
        · exact h6 i (by omega) hi2
      · rw [if_neg (by simp [hl])]
        exact ⟨n, rfl, by omega, by omega, fun i h3 h4 => by omega, fun _ => hl⟩
    · rw [if_neg (by simpa using hlt)]
      exact ⟨n, rfl, by omega, by omega, fun i h3 h4 => by omega, fun h => absurd h hlt⟩

theorem fileName {k : Nat} {s : ByteArray} (hs : s.size ≤ maxLen) (hk : maxLen < k) : pimpl_fileName k s = some (decide (nameOk s)) := by
  unfold pimpl_fileName
  rw [within]
  simp only [Option.bind_some]
  by_cases hz : (1 : Int) ≤ (s.size : Int) ∧ (s.size : Int) ≤ 8
  · rw [if_pos (by simpa using hz)]
    unfold pimpl_run_on2_pimpl_lower
    obtain ⟨j, h1, h2, h3, h4, h5⟩ := run_L1 k s hs k 0 (by omega) (by omega)
    rw [show ((0 : Nat) : Int) = 0 from rfl] at h1
    rw [h1]
    simp only [Option.bind_some]
    congr 1
    by_cases hj : j = s.size
    · subst hj
      have : nameOk s := ⟨fun i hi => h4 i (by omega) hi, by omega, by omega⟩
      simp [this]
    · have : ¬ nameOk s := fun h => h5 (by omega) (h.1 j (by omega))
      have h6 : ((j : Int) == (s.size : Int)) = false := by
        rw [beq_eq_false_iff_ne]; omega
      rw [h6]; simp [this]
  · rw [if_neg (by simpa using hz)]
    have : ¬ nameOk s := fun h => hz ⟨by have := h.2.1; omega, by have := h.2.2; omega⟩
    simp [this]
theorem szRequest (k : Nat) (x : GRequest) : ∃ r, plaws_szRequest k x 1048576 = some r := by
  unfold plaws_szRequest
  split
  · exact ⟨_, rfl⟩
  · split <;> exact ⟨_, rfl⟩

theorem requestOk {k : Nat} {x : GRequest} (hx : x.ok) (hk : maxLen < k) : ∃ b, pspec_RequestOk k x = some b ∧ pimpl_RequestOk k x = some b := by
  unfold pspec_RequestOk pimpl_RequestOk
  rw [l16Name hx.2.1 hk, fileName hx.2.1 hk]
  simp only [Option.bind_some]
  (repeat' split) <;> exact ⟨_, rfl, rfl⟩

theorem law (x : GRequest) (hx : x.ok) : ∃ k, plaws_FnExactRequestOk k x = some true := by
  refine ⟨maxLen + 1, ?_⟩
  unfold plaws_FnExactRequestOk
  obtain ⟨r, h1⟩ := szRequest (maxLen + 1) x
  rw [h1]
  simp only [Option.bind_some]
  split
  · rfl
  · obtain ⟨b, h5, h6⟩ := requestOk hx (Nat.lt_succ_self _)
    simp only [plaws_toRequest, Option.bind_some, h5, h6]
    simp
end FnExactRequestOk
end Go.Proofs.Ytbpenglnebpbcaa

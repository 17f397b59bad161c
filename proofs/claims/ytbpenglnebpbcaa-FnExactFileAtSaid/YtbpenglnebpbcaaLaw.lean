/- The law, plainly. -/
import Derived.Test.YtbpenglnebpbcaaFn
set_option linter.unusedVariables false
set_option linter.unusedSimpArgs false
namespace Go.Proofs.Ytbpenglnebpbcaa
open Go.RowKit Go.Av
namespace FnExactFileAt
theorem toFileS_L1 (k : Nat) (l : List GFile) (hl : l.length ≤ maxLen) : ∀ (m n : Nat) (o : List GFile), n ≤ l.length → l.length - n < m → o.length = l.length → o.take n = l.take n → plaws_toFileS_L1 k l m (n : Int) o = some (.done l)
  | 0, n, o, h1, h2, h3, h4 => by omega
  | m + 1, n, o, h1, h2, h3, h4 => by
    unfold plaws_toFileS_L1
    by_cases hlt : n < l.length
    · rw [if_pos (by simpa using hlt), at_lt hlt]
      simp only [Option.bind_some, plaws_toFile]
      rw [if_pos ⟨by omega, by simpa [h3] using hlt⟩, wr_succ hlt hl]
      refine toFileS_L1 k l hl m (n + 1) _ (by omega) (by omega) (by simp [h3]) ?_
      simp only [Int.toNat_natCast]
      apply List.ext_getElem?
      intro j
      rw [List.getElem?_take, List.getElem?_take]
      by_cases hj : j < n + 1
      · rw [if_pos hj, if_pos hj, List.getElem?_set]
        by_cases hjn : n = j
        · subst hjn
          rw [if_pos rfl, if_pos (by omega), List.getElem?_eq_getElem hlt]
        · rw [if_neg hjn]
          have := congrArg (fun q => q[j]?) h4
          simpa [List.getElem?_take, show j < n by omega] using this
      · rw [if_neg hj, if_neg hj]
    · rw [if_neg (by simpa using hlt)]
      have hn : n = l.length := by omega
      subst hn
      rw [List.take_length, ← h3, List.take_length] at h4
      rw [h4]

theorem toFileS {k : Nat} {l : List GFile} (hl : l.length ≤ 1048576) (hk : l.length < k) : plaws_toFileS k l = some l := by
  unfold plaws_toFileS
  rw [if_pos ⟨by omega, by omega⟩]
  have := toFileS_L1 k l (by rw [maxLen_eq]; omega) k 0 (List.replicate ((l.length : Int)).toNat (GFile.mk (bs []) (bs []))) (by omega) (by omega) (by simp) (by simp)
  rw [show ((0 : Nat) : Int) = 0 from rfl] at this
  rw [this]; rfl

theorem szFile (k : Nat) (x : GFile) (hx : x.ok) (b : Int) (h0 : 0 ≤ b) (h1 : b ≤ 1048576) : ∃ r, plaws_szFile k x b = some r ∧ r ≤ b ∧ -1 ≤ r := by
  obtain ⟨hx1, hx2⟩ := hx
  unfold okS at hx1 hx2
  rw [maxLen_eq] at hx1 hx2
  unfold plaws_szFile
  rw [wr_i64 (by omega) (by omega)]
  split
  · exact ⟨_, rfl, by omega, by omega⟩
  · rename_i h
    simp at h
    rw [wr_i64 (by omega) (by omega)]
    split
    · exact ⟨_, rfl, by omega, by omega⟩
    · rename_i h; simp at h; exact ⟨_, rfl, by omega, by omega⟩

theorem szFileS_L1 (k : Nat) (l : List GFile) (hl : l.length ≤ maxLen) (ho : ∀ x ∈ l, x.ok) : ∀ (m n : Nat) (b : Int), n ≤ l.length → l.length - n < m → 0 ≤ b → b ≤ 1048576 →
    ∃ r, plaws_szFileS_L1 k l m b (n : Int) = some r ∧ (match r with | .ret r => r < 0 | .done b' => 0 ≤ b' ∧ b' ≤ b)
  | 0, n, b, h1, h2, h3, h4 => by omega
  | m + 1, n, b, h1, h2, h3, h4 => by
    unfold plaws_szFileS_L1
    by_cases hlt : n < l.length
    · rw [if_pos (by simpa using hlt), at_lt hlt]
      simp only [Option.bind_some]
      obtain ⟨r, hr, hr1, hr2⟩ := szFile k l[n] (ho _ (List.getElem_mem hlt)) b h3 h4
      rw [hr]
      simp only [Option.bind_some]
      split
      · exact ⟨_, rfl, by simp⟩
      · rename_i h
        simp at h
        rw [wr_succ hlt hl]
        obtain ⟨r', h5, h6⟩ := szFileS_L1 k l hl ho m (n + 1) r (by omega) (by omega) h (by omega)
        refine ⟨r', h5, ?_⟩
        cases r' with
        | ret r => exact h6
        | done b' => exact ⟨h6.1, by have := h6.2; omega⟩
    · rw [if_neg (by simpa using hlt)]
      exact ⟨_, rfl, h3, Int.le_refl _⟩

/-- The sizes are told; where there is room, the list is short. -/
theorem szFileS {k : Nat} {l : List GFile} (hl : okL GFile.ok l) (hk : l.length < k) : ∃ r, plaws_szFileS k l 1048576 = some r ∧ (0 ≤ r → l.length ≤ 1048576) := by
  obtain ⟨hl, ho⟩ := hl
  have hm := hl
  rw [maxLen_eq] at hm
  unfold plaws_szFileS
  rw [wr_i64 (by omega) (by omega)]
  split
  · exact ⟨_, rfl, by omega⟩
  · rename_i h
    simp at h
    obtain ⟨r, h1, h2⟩ := szFileS_L1 k l hl ho k 0 (1048576 - (l.length : Int)) (by omega) (by omega) (by omega) (by omega)
    rw [show ((0 : Nat) : Int) = 0 from rfl] at h1
    rw [h1]
    cases r with
    | ret r => exact ⟨r, rfl, fun _ => by omega⟩
    | done b => exact ⟨b, rfl, fun _ => by omega⟩

/-- What both find. -/
def found (l : List GFile) (s : ByteArray) : ByteArray × Bool := match l.find? fun f => sEq f.gName s with | some f => (f.gText, true) | none => (bs [], false)
def foundO (l : List GFile) (s : ByteArray) : Out (ByteArray × Bool) Unit := match l.find? fun f => sEq f.gName s with | some f => .ret (f.gText, true) | none => .done ()

theorem foundO_step {l : List GFile} {s : ByteArray} {n : Nat} (h : n < l.length) : foundO (l.drop n) s = if sEq l[n].gName s = true then .ret (l[n].gText, true) else foundO (l.drop (n + 1)) s := by
  rw [List.drop_eq_getElem_cons h]
  unfold foundO
  simp only [List.find?_cons]
  cases sEq l[n].gName s <;> rfl

theorem specFileAt_L1 (k : Nat) (l : List GFile) (s : ByteArray) (hl : l.length ≤ maxLen) : ∀ (m n : Nat), n ≤ l.length → l.length - n < m → pspec_FileAt_L1 k l s m (n : Int) = some (foundO (l.drop n) s)
  | 0, n, h1, h2 => by omega
  | m + 1, n, h1, h2 => by
    unfold pspec_FileAt_L1
    by_cases hlt : n < l.length
    · rw [if_pos (by simpa using hlt), at_lt hlt, foundO_step hlt]
      simp only [Option.bind_some]
      split
      · rfl
      · rw [wr_succ hlt hl]; exact specFileAt_L1 k l s hl m (n + 1) (by omega) (by omega)
    · rw [if_neg (by simpa using hlt), List.drop_of_length_le (by omega)]; rfl

theorem implFileAt_L1 (k : Nat) (l : List GFile) (s : ByteArray) (hl : l.length ≤ maxLen) : ∀ (m n : Nat), n ≤ l.length → l.length - n < m → pimpl_FileAt_L1 k l s m (n : Int) = some (foundO (l.drop n) s)
  | 0, n, h1, h2 => by omega
  | m + 1, n, h1, h2 => by
    unfold pimpl_FileAt_L1
    by_cases hlt : n < l.length
    · rw [if_pos (by simpa using hlt), at_lt hlt, foundO_step hlt]
      simp only [Option.bind_some]
      split
      · rfl
      · rw [wr_succ hlt hl]; exact implFileAt_L1 k l s hl m (n + 1) (by omega) (by omega)
    · rw [if_neg (by simpa using hlt), List.drop_of_length_le (by omega)]; rfl

theorem specFileAt {k : Nat} {l : List GFile} (s : ByteArray) (hl : l.length ≤ maxLen) (hk : l.length < k) : pspec_FileAt k l s = some (found l s) := by
  unfold pspec_FileAt
  have := specFileAt_L1 k l s hl k 0 (by omega) (by omega)
  rw [show ((0 : Nat) : Int) = 0 from rfl, List.drop_zero] at this
  rw [this]
  unfold foundO found
  cases l.find? fun f => sEq f.gName s <;> rfl

theorem implFileAt {k : Nat} {l : List GFile} (s : ByteArray) (hl : l.length ≤ maxLen) (hk : l.length < k) : pimpl_FileAt k l s = some (found l s) := by
  unfold pimpl_FileAt
  have := implFileAt_L1 k l s hl k 0 (by omega) (by omega)
  rw [show ((0 : Nat) : Int) = 0 from rfl, List.drop_zero] at this
  rw [this]
  unfold foundO found
  cases l.find? fun f => sEq f.gName s <;> rfl

theorem eqFile (k : Nat) (x : GFile) : plaws_eqFile k x x = some true := by
  unfold plaws_eqFile
  simp [sEq_refl]

theorem eqFileS_L1 (k : Nat) (l : List GFile) (hl : l.length ≤ maxLen) : ∀ (m n : Nat), n ≤ l.length → l.length - n < m → plaws_eqFileS_L1 k l l m (n : Int) = some (.done ())
  | 0, n, h1, h2 => by omega
  | m + 1, n, h1, h2 => by
    unfold plaws_eqFileS_L1
    by_cases hlt : n < l.length
    · rw [if_pos (by simpa using hlt), at_lt hlt]
      simp only [Option.bind_some, eqFile]
      rw [if_neg (by simp), wr_succ hlt hl]
      exact eqFileS_L1 k l hl m (n + 1) (by omega) (by omega)
    · rw [if_neg (by simpa using hlt)]

theorem eqFileS {k : Nat} {l : List GFile} (hl : l.length ≤ maxLen) (hk : l.length < k) : plaws_eqFileS k l l = some true := by
  unfold plaws_eqFileS
  have := eqFileS_L1 k l hl k 0 (by omega) (by omega)
  rw [show ((0 : Nat) : Int) = 0 from rfl] at this
  rw [if_neg (by simp), this]; rfl

theorem law (l : List GFile) (s : ByteArray) (hl : okL GFile.ok l) (hs : okS s) : ∃ k, plaws_FnExactFileAt k l s = some true := by
  refine ⟨l.length + 1, ?_⟩
  unfold plaws_FnExactFileAt
  split
  · rfl
  · obtain ⟨r, h1, h2⟩ := szFileS hl (Nat.lt_succ_self l.length)
    rw [h1]
    simp only [Option.bind_some]
    split
    · rfl
    · rename_i h3
      have h4 := h2 (by simpa using h3)
      have hk := Nat.lt_succ_self l.length
      rw [toFileS h4 hk]
      simp only [Option.bind_some]
      rw [specFileAt s hl.1 hk, implFileAt s hl.1 hk]
      simp only [Option.bind_some, sEq_refl]
      rw [eqFileS hl.1 hk]
      simp
end FnExactFileAt
end Go.Proofs.Ytbpenglnebpbcaa

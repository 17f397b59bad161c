/- The law, plainly. -/
import Derived.Test.YtbpenglnebpbcaaFn
set_option linter.unusedVariables false
set_option linter.unusedSimpArgs false
namespace Go.Proofs.Ytbpenglnebpbcaa
open Go.RowKit Go.Av
namespace FnExactFollowCell
/-- Lists are short, all the way down. -/
def smI (l : List Int) : Prop := l.length ≤ 1048576
def smCell (x : GCell) : Prop := smI x.gKids
def smCells (l : List GCell) : Prop := l.length ≤ 1048576 ∧ ∀ x ∈ l, smCell x
def smHeap (x : GHeap) : Prop := smCells x.gCells ∧ smI x.gTrail

theorem szIntS (k : Nat) (l : List Int) (hl : l.length ≤ maxLen) (b : Int) (h0 : 0 ≤ b) (h1 : b ≤ Small) : ∃ r, plaws_szIntS k l b = some r ∧ -1 ≤ r ∧ r ≤ b ∧ (0 ≤ r → smI l) := by
  rw [maxLen_eq] at hl
  unfold Small at h1
  unfold plaws_szIntS smI
  rw [wr_i64 (by omega) (by omega)]
  split
  · exact ⟨_, rfl, by omega, by omega, by omega⟩
  · rename_i h; simp at h; exact ⟨_, rfl, by omega, by omega, by omega⟩

theorem szCell (k : Nat) (x : GCell) (hx : x.ok) (b : Int) (h0 : 0 ≤ b) (h1 : b ≤ Small) : ∃ r, plaws_szCell k x b = some r ∧ -1 ≤ r ∧ r ≤ b ∧ (0 ≤ r → smCell x) := by
  obtain ⟨_, hn, _, _, hk, _⟩ := hx
  unfold okS at hn
  have hk' := hk
  rw [maxLen_eq] at hn
  unfold plaws_szCell
  have h1' := h1
  unfold Small at h1'
  rw [wr_i64 (by omega) (by omega)]
  split
  · exact ⟨_, rfl, by omega, by omega, by omega⟩
  · rename_i h
    simp at h
    obtain ⟨r, h2, h3, h4, h5⟩ := szIntS k x.gKids hk' (b - (x.gName.size : Int)) (by omega) (by unfold Small; omega)
    rw [h2]
    simp only [Option.bind_some]
    split
    · exact ⟨_, rfl, by omega, by omega, by omega⟩
    · exact ⟨_, rfl, h3, by omega, h5⟩

theorem szCellS {k : Nat} {l : List GCell} (hl : okL GCell.ok l) (hk : maxLen < k) (b : Int) (h0 : 0 ≤ b) (h1 : b ≤ Small) : ∃ r, plaws_szCellS k l b = some r ∧ -1 ≤ r ∧ r ≤ b ∧ (0 ≤ r → smCells l) :=
  sz_list (f := plaws_szCell k) (L := plaws_szCellS_L1 k l) hl.1 (fun x hx b h0 h1 => szCell k x (hl.2 x hx) b h0 h1) (fun m b i => rfl) hk b h0 h1

theorem szHeap {k : Nat} {x : GHeap} (hx : x.ok) (hk : maxLen < k) : ∃ r, plaws_szHeap k x 1048576 = some r ∧ (0 ≤ r → smHeap x) := by
  unfold plaws_szHeap
  obtain ⟨r, h1, h2, h3, h4⟩ := szCellS hx.1 hk 1048576 (by omega) (by unfold Small; omega)
  rw [h1]
  simp only [Option.bind_some]
  split
  · exact ⟨_, rfl, by omega⟩
  · rename_i h
    simp at h
    obtain ⟨r', h5, h6, h7, h8⟩ := szIntS k x.gTrail hx.2.1 r h (by unfold Small; omega)
    rw [h5]
    simp only [Option.bind_some]
    split
    · exact ⟨_, rfl, by omega⟩
    · exact ⟨_, rfl, fun h9 => ⟨h4 h, h8 h9⟩⟩

theorem toIntS {k : Nat} {l : List Int} (hl : smI l) (hk : maxLen < k) : plaws_toIntS k l = some l := by
  have h := to_list0 (L := plaws_toIntS_L1 k l) hl (fun m i o => rfl) hk 0
  unfold plaws_toIntS
  rw [if_pos h.1, h.2]; rfl

theorem toCell {k : Nat} (hk : maxLen < k) (x : GCell) (hx : smCell x) : plaws_toCell k x = some x := by
  unfold plaws_toCell
  rw [toIntS hx hk]; rfl

theorem toCellS {k : Nat} {l : List GCell} (hl : smCells l) (hk : maxLen < k) : plaws_toCellS k l = some l := by
  have h := to_list (f := plaws_toCell k) (L := plaws_toCellS_L1 k l) hl.1 (fun x hx => toCell hk x (hl.2 x hx)) (fun m i o => rfl) hk (GCell.mk 0 (bs []) 0 0 [])
  unfold plaws_toCellS
  rw [if_pos h.1, h.2]; rfl

theorem toHeap {k : Nat} {x : GHeap} (hx : smHeap x) (hk : maxLen < k) : plaws_toHeap k x = some x := by
  unfold plaws_toHeap
  rw [toCellS hx.1 hk, Option.bind_some, toIntS hx.2 hk]; rfl

theorem eqIntS {k : Nat} {l : List Int} (hl : l.length ≤ maxLen) (hk : maxLen < k) : plaws_eqIntS k l l = some true := by
  have h := eq_list0 (ne := fun x y => x != y) (L := plaws_eqIntS_L1 k l l) hl (fun x => by simp) (fun m i => rfl) hk
  unfold plaws_eqIntS
  rw [if_neg h.1, h.2]; rfl

theorem eqCell {k : Nat} (hk : maxLen < k) (x : GCell) (hx : x.ok) : plaws_eqCell k x x = some true := by
  unfold plaws_eqCell
  rw [eqIntS hx.2.2.2.2.1 hk]
  simp [sEq_refl]

theorem eqCellS {k : Nat} {l : List GCell} (hl : okL GCell.ok l) (hk : maxLen < k) : plaws_eqCellS k l l = some true := by
  have h := eq_list (f := plaws_eqCell k) (L := plaws_eqCellS_L1 k l l) hl.1 (fun x hx => eqCell hk x (hl.2 x hx)) (fun m i => rfl) hk
  unfold plaws_eqCellS
  rw [if_neg h.1, h.2]; rfl

theorem eqHeap {k : Nat} {x : GHeap} (hx : x.ok) (hk : maxLen < k) : plaws_eqHeap k x x = some true := by
  unfold plaws_eqHeap
  rw [eqCellS hx.1 hk]
  simp only [Option.bind_some]
  rw [if_neg (by simp), eqIntS hx.2.1 hk]
  simp
theorem l01In (k : Nat) (x a b : Int) : pspec_l01In k x a b = some (decide (a ≤ x ∧ x ≤ b)) := by
  unfold pspec_l01In
  by_cases h : a ≤ x
  · rw [if_pos (by simpa using h)]; simp [h]
  · rw [if_neg (by simpa using h)]; simp [h]

theorem within (k : Nat) (x a b : Int) : pimpl_within k x a b = some (decide (a ≤ x ∧ x ≤ b)) := by
  unfold pimpl_within
  by_cases h : a ≤ x
  · rw [if_pos (by simpa using h)]; simp [h]
  · rw [if_neg (by simpa using h)]; simp [h]
theorem follow_L1 (k : Nat) (x : GHeap) (hl : x.gCells.length ≤ 1048576) : ∀ (m n : Nat) (a : Int), n ≤ x.gCells.length + 1 → x.gCells.length + 1 - n < m →
    ∃ o, pspec_l13Follow_L1 k x.gCells m a (n : Int) = some o ∧ pimpl_follow_L1 k x m a (n : Int) = some o
  | 0, n, a, h1, h2 => by omega
  | m + 1, n, a, h1, h2 => by
    unfold pspec_l13Follow_L1 pimpl_follow_L1
    have hw : wr.i64 ((x.gCells.length : Int) + 1) = (x.gCells.length : Int) + 1 := wr_i64 (by omega) (by omega)
    have hw1 : wr.i64 ((x.gCells.length : Int) - 1) = (x.gCells.length : Int) - 1 := wr_i64 (by omega) (by omega)
    rw [hw]
    by_cases hlt : n < x.gCells.length + 1
    · have hd1 : decide ((n : Int) ≤ (x.gCells.length : Int)) = true := by simp; omega
      have hd2 : decide ((n : Int) < (x.gCells.length : Int) + 1) = true := by simp; omega
      rw [if_pos hd1, if_pos hd2]
      unfold pimpl_isCell
      rw [l01In, within, hw1]
      simp only [Option.bind_some]
      by_cases ha : 0 ≤ a ∧ a ≤ (x.gCells.length : Int) - 1
      · obtain ⟨i, rfl⟩ : ∃ i : Nat, a = (i : Int) := ⟨a.toNat, by omega⟩
        have hi : i < x.gCells.length := by omega
        have ih := follow_L1 k x hl m (n + 1) x.gCells[i].gTo (by omega) (by omega)
        have hs : wr.i64 ((n : Int) + 1) = ((n + 1 : Nat) : Int) := by rw [wr_i64 (by omega) (by omega)]; omega
        simp only [at_lt hi, Option.bind_some, hs]
        have hg : ¬ (!decide (0 ≤ ((i : Nat) : Int) ∧ ((i : Nat) : Int) ≤ (x.gCells.length : Int) - 1)) = true := by simp [ha]
        rw [if_neg hg, if_neg hg]
        split
        · exact ⟨_, rfl, rfl⟩
        · split
          · exact ⟨_, rfl, rfl⟩
          · exact ih
      · rw [if_pos (by simp only [decide_eq_false ha]; rfl), if_pos (by simp only [decide_eq_false ha]; rfl)]
        exact ⟨_, rfl, rfl⟩
    · have hd1 : ¬ decide ((n : Int) ≤ (x.gCells.length : Int)) = true := by simp; omega
      have hd2 : ¬ decide ((n : Int) < (x.gCells.length : Int) + 1) = true := by simp; omega
      rw [if_neg hd1, if_neg hd2]
      exact ⟨_, rfl, rfl⟩

theorem followCell {k : Nat} {x : GHeap} (hx : smHeap x) (hk : maxLen < k) (a : Int) : ∃ r, pspec_FollowCell k x a = some r ∧ pimpl_FollowCell k x a = some r := by
  unfold pspec_FollowCell pimpl_FollowCell pspec_l13Follow pimpl_follow
  obtain ⟨o, h1, h2⟩ := follow_L1 k x hx.1.1 k 0 a (by omega) (by have := hx.1.1; rw [maxLen_eq] at hk; omega)
  rw [show ((0 : Nat) : Int) = 0 from rfl] at h1 h2
  rw [h1, h2]
  cases o with
  | ret r => exact ⟨r, rfl, rfl⟩
  | done u => exact ⟨_, rfl, rfl⟩

theorem law (x : GHeap) (a : Int) (hx : x.ok) (ha : okI .i64 a) : ∃ k, plaws_FnExactFollowCell k x a = some true := by
  refine ⟨maxLen + 1, ?_⟩
  have hk : maxLen < maxLen + 1 := Nat.lt_succ_self _
  unfold plaws_FnExactFollowCell
  obtain ⟨r, h1, h2⟩ := szHeap hx hk
  rw [h1]
  simp only [Option.bind_some]
  split
  · rfl
  · rename_i h3
    have h4 := h2 (by simpa using h3)
    obtain ⟨b, h5, h6⟩ := followCell h4 hk a
    simp only [toHeap h4 hk, Option.bind_some, h5, h6, eqHeap hx hk]
    simp
end FnExactFollowCell
end Go.Proofs.Ytbpenglnebpbcaa

/- The law, plainly. -/
import Derived.Test.YtbfkmgenokhkgaaFn
set_option linter.unusedVariables false
set_option linter.unusedSimpArgs false
namespace Go.Proofs.Ytbfkmgenokhkgaa
open Go.RowKit Go.Bv
namespace FnExactUndoTo
/-- Room for the marks. -/
theorem markText_loop (k : Nat) : ∀ (j m : Nat) (b : Int) (e : ByteArray), j < m → 0 ≤ b → b < 2 ^ j → j ≤ 61 → e.size + j ≤ 1000 →
    ∃ s, plaws_markText_L1 k m b e = some (.done s) ∧ s.size ≤ 1000
  | j, 0, b, e, h1, _, _, _, _ => by omega
  | 0, m + 1, b, e, h1, h2, h3, h4, h5 => by
    unfold plaws_markText_L1
    rw [if_neg (by simp at h3 ⊢; omega)]
    exact ⟨e, rfl, by omega⟩
  | j + 1, m + 1, b, e, h1, h2, h3, h4, h5 => by
    unfold plaws_markText_L1
    by_cases hb : b > 0
    · have hp : (2 : Int) ^ (j + 1) = 2 * 2 ^ j := by rw [Int.pow_succ]; omega
      have hj : (2 : Int) ^ j ≤ 2 ^ 61 := by
        have : (2 : Nat) ^ j ≤ 2 ^ 61 := Nat.pow_le_pow_right (by omega) (by omega)
        exact_mod_cast this
      have hq : Int.tdiv b 10 = b / 10 := Int.tdiv_eq_ediv_of_nonneg h2
      have hs : (strOfNums [wr.u8 (wr.i64 (48 + (Int.tmod b 10)))]).size = 1 := rfl
      rw [if_pos (by simpa using hb), if_pos (by omega), if_pos (by unfold sumOk; rw [hs]; omega), if_pos (by omega), hq, wr_i64 (by omega) (by omega)]
      exact markText_loop k j m (b / 10) _ (by omega) (by omega) (by omega) (by omega) (by rw [ByteArray.size_append, hs]; omega)
    · rw [if_neg (by simpa using hb)]; exact ⟨e, rfl, by omega⟩

theorem markText {k : Nat} (hk : maxLen < k) (b : Int) (h0 : 0 ≤ b) (h1 : b ≤ Huge) : ∃ s, plaws_markText k b = some s := by
  unfold plaws_markText
  by_cases hb : b ≤ 0
  · rw [if_pos (by simpa using hb)]; exact ⟨_, rfl⟩
  · rw [if_neg (by simpa using hb)]
    rw [maxLen_eq] at hk
    have hH : Huge = 1152921504606846976 := rfl
    have hp : (2 : Int) ^ 61 = 2305843009213693952 := by decide
    obtain ⟨s, h2, h3⟩ := markText_loop k 61 k b (bs []) (by omega) h0 (by rw [hp]; omega) (by omega) (by have : (bs []).size = 0 := rfl; omega)
    rw [h2]
    simp only [Option.bind_some]
    rw [if_pos (by unfold sumOk; have : (bs [109]).size = 1 := rfl; omega)]
    exact ⟨_, rfl⟩
theorem szIntS {k : Nat} {l : List Int} (hw : maxLen + 2 * (nsum (fun _ => 0) l) + 2 < k) (hl : okL (okI .i64) l) (b : Int) (h0 : 0 ≤ b) (h1 : b ≤ Small) : ∃ r, plaws_szIntS k l b = some r ∧ -1 ≤ r ∧ (0 ≤ r → r + (nsum (fun _ => 0) l : Int) ≤ b) := by
  unfold plaws_szIntS; exact sz2_flat hl.1 b h0 h1

theorem toIntS {k : Nat} {l : List Int} (hw : maxLen + 2 * (nsum (fun _ => 0) l) + 2 < k) (hl : nsum (fun _ => 0) l ≤ 1048576) : plaws_toIntS k l = some l := by
  have := nsum_len (fun _ => 0) l
  have h := to2_flat (L := plaws_toIntS_L1 k l) (by omega) (fun m i o => rfl) (k := k) (by omega) 0
  unfold plaws_toIntS
  rw [if_pos h.1, h.2]; rfl

theorem plaws_toIntS_dd : @plaws_toIntS_d = @plaws_toIntS := by kernel_rfl

theorem eqIntS {k : Nat} {l : List Int} (hw : maxLen + 2 * (nsum (fun _ => 0) l) + 2 < k) (hl : nsum (fun _ => 0) l ≤ Huge) : plaws_eqIntS k l l = some true := by
  have := nsum_len (fun _ => 0) l
  exact eq2_flat (ne := fun x y => x != y) (L := plaws_eqIntS_L1 k l l) (by omega) (fun x => by simp [sEq_refl]) (fun m i => rfl) (k := k) (by omega)

theorem markIntS {k : Nat} {l : List Int} (hw : maxLen + 2 * (nsum (fun _ => 0) l) + 2 < k) (b : Int) (h1 : 1 ≤ b) (h2 : b + 16 * (nsum (fun _ => 0) l : Int) ≤ Huge) :
    ∃ l' c, plaws_markIntS k l b = some (l', c) ∧ plaws_heldIntS k l' b = some c ∧ b ≤ c ∧ c ≤ b + 16 * (nsum (fun _ => 0) l : Int) := by
  have hm : maxLen = 9223372036854775807 := maxLen_eq
  have hH : Huge = 1152921504606846976 := rfl
  have h3 : (if (3 : Int) ≠ 0 then True else False) = True := by decide
  have hlen := nsum_len (fun _ => 0) l
  have key := mark2 (n := (fun _ => 0)) (ok := fun x => maxLen + 2 * 0 + 2 < k)
    (good := fun b x c => 1 ≤ b ∧ c ≤ Huge ∧ c = (b + 1) ∧ x = b)
    (L := plaws_markIntS_L1 k) (H := plaws_heldIntS_L1 k)
    (fun m b l => by unfold plaws_markIntS_L1; rw [if_neg (by simp)])
    (fun m b j l x hx hj hat h1 h2 => by
      skip
      refine ⟨b, (b + 1), ⟨h1, (by omega), rfl, rfl⟩, (by omega), (by omega), fun hlt => ?_⟩
      have w0 : wr.i64 (b + 1) = b + 1 := by have := wr_i64 (x := b + 1) (by omega) (by omega); omega
      have hat' : (at' l (j : Int)).isSome = true := by rw [hat]; rfl
      rw [plaws_markIntS_L1, if_pos (by simpa using hlt)]
      simp only [hat, hat', Option.isSome_some, Option.bind_some, w0, at_set, at_set_some, cast_succ hj, List.set_set, Int.toNat_natCast, if3])
    (fun l m b => by unfold plaws_heldIntS_L1; rw [if_neg (by simp)])
    (fun l m b c j x hj hat hg hlt => by
      obtain ⟨g1, g2, g3, k0⟩ := hg
      have w0 : wr.i64 (b + 1) = b + 1 := by have := wr_i64 (x := b + 1) (by omega) (by omega); omega
      have hc : ∀ c : Int, 1 ≤ c → (decide (c < 0)) = false := fun c h => by simpa using (by omega : 0 ≤ c)
      rw [plaws_heldIntS_L1, if_pos (by simpa using hlt)]
      simp only [hat, Option.bind_some, w0, k0, bne_self_eq_false, beq_self_eq_true, sEq_refl, Bool.not_true, Bool.false_eq_true, if_false, cast_succ hj, if3, g3])
    (k := k) (by omega) l (fun x hx => by have := nsum_mem (n := (fun _ => 0)) hx; omega) b h1 h2
  obtain ⟨l', c, e1, e2, e3, e4⟩ := key
  refine ⟨l', c, ?_, ?_, e3, e4⟩
  · unfold plaws_markIntS; rw [e1]; rfl
  · unfold plaws_heldIntS; rw [e2]; rfl

def nCell (x : GCell) : Nat := nsum (fun _ => 0) x.gKids

theorem szCell {k : Nat} {x : GCell} (hw : maxLen + 2 * (nCell x) + 2 < k) (hx : x.ok) (b : Int) (h0 : 0 ≤ b) (h1 : b ≤ Small) : ∃ r, plaws_szCell k x b = some r ∧ -1 ≤ r ∧ (0 ≤ r → r + (nCell x : Int) ≤ b) := by
  unfold nCell at *
  unfold plaws_szCell
  have hS : Small = 1048576 := rfl
  have hs1 : x.gName.size ≤ 9223372036854775807 := by have := hx.2.1; unfold okFs at this; rw [maxLen_eq] at this; exact this
  have hr1 : wr.i64 (b - (x.gName.size : Int)) = (b - (x.gName.size : Int)) := wr_i64 (by omega) (by omega)
  rw [hr1]
  by_cases c1 : (b - (x.gName.size : Int)) < 0
  · rw [if_pos (by simpa using c1)]; exact ⟨_, rfl, by omega, by omega⟩
  rw [if_neg (by simpa using c1)]
  obtain ⟨r2, e2, l2, u2⟩ := szIntS (k := k) (l := x.gKids) (by omega) hx.2.2.2.2 (b - (x.gName.size : Int)) (by omega) (by omega)
  rw [e2]
  simp only [Option.bind_some]
  by_cases c2 : r2 < 0
  · rw [if_pos (by simpa using c2)]; exact ⟨_, rfl, by omega, by omega⟩
  rw [if_neg (by simpa using c2)]
  exact ⟨_, rfl, by omega, fun h => by omega⟩

theorem toCell {k : Nat} {x : GCell} (hw : maxLen + 2 * (nCell x) + 2 < k) (hx : nCell x ≤ 1048576) : plaws_toCell k x = some x := by
  unfold nCell at *
  unfold plaws_toCell
  rw [toIntS (k := k) (l := x.gKids) (by omega) (by omega)]
  simp only [Option.bind_some]

theorem plaws_toCell_dd : @plaws_toCell_d = @plaws_toCell := by kernel_rfl

theorem eqCell {k : Nat} {x : GCell} (hw : maxLen + 2 * (nCell x) + 2 < k) (hx : nCell x ≤ Huge) : plaws_eqCell k x x = some true := by
  unfold nCell at *
  unfold plaws_eqCell
  rw [eqIntS (k := k) (l := x.gKids) (by omega) (by omega)]
  simp [sEq_refl]

theorem szCellS {k : Nat} {l : List GCell} (hw : maxLen + 2 * (nsum nCell l) + 2 < k) (hl : okL (GCell.ok) l) (b : Int) (h0 : 0 ≤ b) (h1 : b ≤ Small) : ∃ r, plaws_szCellS k l b = some r ∧ -1 ≤ r ∧ (0 ≤ r → r + (nsum nCell l : Int) ≤ b) := by
  exact sz2 (f := plaws_szCell k) (L := plaws_szCellS_L1 k l) hl.1 (fun x hx b h0 h1 => by have := nsum_mem (n := nCell) hx; exact szCell (by omega) (hl.2 x hx) b h0 h1) (fun m b i => rfl) (by omega) b h0 h1

theorem toCellS {k : Nat} {l : List GCell} (hw : maxLen + 2 * (nsum nCell l) + 2 < k) (hl : nsum nCell l ≤ 1048576) : plaws_toCellS k l = some l := by
  have := nsum_len nCell l
  have h := to2 (f := plaws_toCell k) (L := plaws_toCellS_L1 k l) (by omega) (fun x hx => by have := nsum_mem (n := nCell) hx; exact toCell (by omega) (by omega)) (fun m i o => rfl) (k := k) (by omega) (GCell.mk 0 (bs []) 0 0 [])
  unfold plaws_toCellS
  rw [if_pos h.1, h.2]; rfl

theorem plaws_toCellS_dd : @plaws_toCellS_d = @plaws_toCellS := by kernel_rfl

theorem eqCellS {k : Nat} {l : List GCell} (hw : maxLen + 2 * (nsum nCell l) + 2 < k) (hl : nsum nCell l ≤ Huge) : plaws_eqCellS k l l = some true := by
  have := nsum_len nCell l
  exact eq2 (f := plaws_eqCell k) (L := plaws_eqCellS_L1 k l l) (by omega) (fun x hx => by have := nsum_mem (n := nCell) hx; exact eqCell (by omega) (by omega)) (fun m i => rfl) (k := k) (by omega)

theorem markCellS {k : Nat} {l : List GCell} (hw : maxLen + 2 * (nsum nCell l) + 2 < k) (b : Int) (h1 : 1 ≤ b) (h2 : b + 16 * (nsum nCell l : Int) ≤ Huge) :
    ∃ l' c, plaws_markCellS k l b = some (l', c) ∧ plaws_heldCellS k l' b = some c ∧ b ≤ c ∧ c ≤ b + 16 * (nsum nCell l : Int) := by
  have hm : maxLen = 9223372036854775807 := maxLen_eq
  have hH : Huge = 1152921504606846976 := rfl
  have h3 : (if (3 : Int) ≠ 0 then True else False) = True := by decide
  have hlen := nsum_len nCell l
  have key := mark2 (n := nCell) (ok := fun x => maxLen + 2 * (nCell x) + 2 < k)
    (good := fun b x c => ∃ c0 : Int, 1 ≤ b ∧ c ≤ Huge ∧ c = c0 ∧ x.gKind = b ∧ plaws_markText k (b + 1) = some x.gName ∧ x.gNum = (b + 2) ∧ x.gTo = (b + 3) ∧ plaws_heldIntS k x.gKids (b + 4) = some c0 ∧ (b + 4) ≤ c0)
    (L := plaws_markCellS_L1 k) (H := plaws_heldCellS_L1 k)
    (fun m b l => by unfold plaws_markCellS_L1; rw [if_neg (by simp)])
    (fun m b j l x hx hj hat h1 h2 => by
      try unfold nCell at *
      obtain ⟨s1, t1⟩ := markText (k := k) (by omega) (b + 1) (by omega) (by omega)
      obtain ⟨y0, c0, e0, f0, l0, u0⟩ := markIntS (k := k) (l := x.gKids) (by omega) (b + 4) (by omega) (by omega)
      refine ⟨(GCell.mk b s1 (b + 2) (b + 3) y0), c0, ⟨c0, h1, (by omega), rfl, rfl, t1, rfl, rfl, f0, (by omega)⟩, (by omega), (by omega), fun hlt => ?_⟩
      have w0 : wr.i64 (b + 1) = b + 1 := by have := wr_i64 (x := b + 1) (by omega) (by omega); omega
      have w1 : wr.i64 (b + 1 + 1) = b + 2 := by have := wr_i64 (x := b + 1 + 1) (by omega) (by omega); omega
      have w2 : wr.i64 (b + 2 + 1) = b + 3 := by have := wr_i64 (x := b + 2 + 1) (by omega) (by omega); omega
      have w3 : wr.i64 (b + 3 + 1) = b + 4 := by have := wr_i64 (x := b + 3 + 1) (by omega) (by omega); omega
      have hat' : (at' l (j : Int)).isSome = true := by rw [hat]; rfl
      rw [plaws_markCellS_L1, if_pos (by simpa using hlt)]
      simp only [hat, hat', Option.isSome_some, Option.bind_some, w0, w1, w2, w3, t1, e0, at_set, at_set_some, cast_succ hj, List.set_set, Int.toNat_natCast, if3])
    (fun l m b => by unfold plaws_heldCellS_L1; rw [if_neg (by simp)])
    (fun l m b c j x hj hat hg hlt => by
      obtain ⟨c0, g1, g2, g3, k0, k1, k2, k3, k4, m4⟩ := hg
      have w0 : wr.i64 (b + 1) = b + 1 := by have := wr_i64 (x := b + 1) (by omega) (by omega); omega
      have w1 : wr.i64 (b + 1 + 1) = b + 2 := by have := wr_i64 (x := b + 1 + 1) (by omega) (by omega); omega
      have w2 : wr.i64 (b + 2 + 1) = b + 3 := by have := wr_i64 (x := b + 2 + 1) (by omega) (by omega); omega
      have w3 : wr.i64 (b + 3 + 1) = b + 4 := by have := wr_i64 (x := b + 3 + 1) (by omega) (by omega); omega
      have hc : ∀ c : Int, 1 ≤ c → (decide (c < 0)) = false := fun c h => by simpa using (by omega : 0 ≤ c)
      rw [plaws_heldCellS_L1, if_pos (by simpa using hlt)]
      simp only [hat, Option.bind_some, w0, w1, w2, w3, k0, k1, k2, k3, k4, bne_self_eq_false, beq_self_eq_true, sEq_refl, Bool.not_true, Bool.false_eq_true, if_false, cast_succ hj, if3, g3, hc c0 (by omega)])
    (k := k) (by omega) l (fun x hx => by have := nsum_mem (n := nCell) hx; omega) b h1 h2
  obtain ⟨l', c, e1, e2, e3, e4⟩ := key
  refine ⟨l', c, ?_, ?_, e3, e4⟩
  · unfold plaws_markCellS; rw [e1]; rfl
  · unfold plaws_heldCellS; rw [e2]; rfl

def nHeap (x : GHeap) : Nat := nsum nCell x.gCells + nsum (fun _ => 0) x.gTrail

theorem szHeap {k : Nat} {x : GHeap} (hw : maxLen + 2 * (nHeap x) + 2 < k) (hx : x.ok) (b : Int) (h0 : 0 ≤ b) (h1 : b ≤ Small) : ∃ r, plaws_szHeap k x b = some r ∧ -1 ≤ r ∧ (0 ≤ r → r + (nHeap x : Int) ≤ b) := by
  unfold nHeap at *
  unfold plaws_szHeap
  have hS : Small = 1048576 := rfl
  obtain ⟨r1, e1, l1, u1⟩ := szCellS (k := k) (l := x.gCells) (by omega) hx.1 b h0 (by omega)
  rw [e1]
  simp only [Option.bind_some]
  by_cases c1 : r1 < 0
  · rw [if_pos (by simpa using c1)]; exact ⟨_, rfl, by omega, by omega⟩
  rw [if_neg (by simpa using c1)]
  obtain ⟨r2, e2, l2, u2⟩ := szIntS (k := k) (l := x.gTrail) (by omega) hx.2 r1 (by omega) (by omega)
  rw [e2]
  simp only [Option.bind_some]
  by_cases c2 : r2 < 0
  · rw [if_pos (by simpa using c2)]; exact ⟨_, rfl, by omega, by omega⟩
  rw [if_neg (by simpa using c2)]
  exact ⟨_, rfl, by omega, fun h => by omega⟩

theorem toHeap {k : Nat} {x : GHeap} (hw : maxLen + 2 * (nHeap x) + 2 < k) (hx : nHeap x ≤ 1048576) : plaws_toHeap k x = some x := by
  unfold nHeap at *
  unfold plaws_toHeap
  rw [toCellS (k := k) (l := x.gCells) (by omega) (by omega)]
  simp only [Option.bind_some]
  rw [toIntS (k := k) (l := x.gTrail) (by omega) (by omega)]
  simp only [Option.bind_some]

theorem plaws_toHeap_dd : @plaws_toHeap_d = @plaws_toHeap := by kernel_rfl

theorem eqHeap {k : Nat} {x : GHeap} (hw : maxLen + 2 * (nHeap x) + 2 < k) (hx : nHeap x ≤ Huge) : plaws_eqHeap k x x = some true := by
  unfold nHeap at *
  unfold plaws_eqHeap
  rw [eqCellS (k := k) (l := x.gCells) (by omega) (by omega)]
  rw [eqIntS (k := k) (l := x.gTrail) (by omega) (by omega)]
  simp [sEq_refl]

theorem markHeap {k : Nat} {x : GHeap} (hw : maxLen + 2 * (nHeap x) + 2 < k) (b : Int) (h1 : 1 ≤ b) (h2 : b + 16 * (nHeap x : Int) ≤ Huge) :
    ∃ y c, plaws_markHeap k x b = some (y, c) ∧ plaws_heldHeap k (GHeap.mk y.gCells y.gTrail) b = some c ∧ plaws_heldHeap k y b = some c ∧ b ≤ c ∧ c ≤ b + 16 * (nHeap x : Int) := by
  unfold nHeap at *
  obtain ⟨y0, c0, e0, f0, l0, u0⟩ := markCellS (k := k) (l := x.gCells) (by omega) b (by omega) (by omega)
  obtain ⟨y1, c1, e1, f1, l1, u1⟩ := markIntS (k := k) (l := x.gTrail) (by omega) c0 (by omega) (by omega)
  have hc : ∀ c : Int, 1 ≤ c → (decide (c < 0)) = false := fun c h => by simpa using (by omega : 0 ≤ c)
  refine ⟨GHeap.mk y0 y1, c1, ?_, ?_, ?_, (by omega), (by omega)⟩
  · unfold plaws_markHeap; simp only [e0, e1, Option.bind_some]
  · unfold plaws_heldHeap; simp only [f0, f1, Option.bind_some, hc c0 (by omega), hc c1 (by omega), Bool.false_eq_true, if_false]
  · unfold plaws_heldHeap; simp only [f0, f1, Option.bind_some, hc c0 (by omega), hc c1 (by omega), Bool.false_eq_true, if_false]
theorem l01In (k : Nat) (x a b : Int) : pspec_l01In k x a b = some (decide (a ≤ x ∧ x ≤ b)) := by
  unfold pspec_l01In
  by_cases h : a ≤ x
  · rw [if_pos (by simpa using h)]; simp [h]
  · rw [if_neg (by simpa using h)]; simp [h]

theorem within (k : Nat) (x a b : Int) : pimpl_within k x a b = some (decide (a ≤ x ∧ x ≤ b)) := by
  unfold pimpl_within
  by_cases h : a ≤ x
  · rw [if_pos (by simpa using h)]; simp [h]
  · rw [if_neg (by simpa using h)]; simp [h]
theorem follow_L1 (k : Nat) (x : GHeap) (hl : x.gCells.length ≤ 1048576) : ∀ (m n : Nat) (a : Int), n ≤ x.gCells.length + 1 → x.gCells.length + 1 - n < m →
    ∃ o, pspec_l13Follow_L1 k x.gCells m a (n : Int) = some o ∧ pimpl_follow_L1 k x m a (n : Int) = some o
  | 0, n, a, h1, h2 => by omega
  | m + 1, n, a, h1, h2 => by
    unfold pspec_l13Follow_L1 pimpl_follow_L1
    have hw : wr.i64 ((x.gCells.length : Int) + 1) = (x.gCells.length : Int) + 1 := wr_i64 (by omega) (by omega)
    have hw1 : wr.i64 ((x.gCells.length : Int) - 1) = (x.gCells.length : Int) - 1 := wr_i64 (by omega) (by omega)
    rw [hw]
    by_cases hlt : n < x.gCells.length + 1
    · have hd1 : decide ((n : Int) ≤ (x.gCells.length : Int)) = true := by simp; omega
      have hd2 : decide ((n : Int) < (x.gCells.length : Int) + 1) = true := by simp; omega
      rw [if_pos hd1, if_pos hd2]
      unfold pimpl_isCell
      rw [l01In, within, hw1]
      simp only [Option.bind_some]
      by_cases ha : 0 ≤ a ∧ a ≤ (x.gCells.length : Int) - 1
      · obtain ⟨i, rfl⟩ : ∃ i : Nat, a = (i : Int) := ⟨a.toNat, by omega⟩
        have hi : i < x.gCells.length := by omega
        have ih := follow_L1 k x hl m (n + 1) x.gCells[i].gTo (by omega) (by omega)
        have hs : wr.i64 ((n : Int) + 1) = ((n + 1 : Nat) : Int) := by rw [wr_i64 (by omega) (by omega)]; omega
        simp only [at_lt hi, Option.bind_some, hs]
        have hg : ¬ (!decide (0 ≤ ((i : Nat) : Int) ∧ ((i : Nat) : Int) ≤ (x.gCells.length : Int) - 1)) = true := by simp [ha]
        rw [if_neg hg, if_neg hg]
        split
        · exact ⟨_, rfl, rfl⟩
        · split
          · exact ⟨_, rfl, rfl⟩
          · exact ih
      · rw [if_pos (by simp only [decide_eq_false ha]; rfl), if_pos (by simp only [decide_eq_false ha]; rfl)]
        exact ⟨_, rfl, rfl⟩
    · have hd1 : ¬ decide ((n : Int) ≤ (x.gCells.length : Int)) = true := by simp; omega
      have hd2 : ¬ decide ((n : Int) < (x.gCells.length : Int) + 1) = true := by simp; omega
      rw [if_neg hd1, if_neg hd2]
      exact ⟨_, rfl, rfl⟩

theorem followBoth {k : Nat} {x : GHeap} (hx : x.gCells.length ≤ 1048576) (hk : maxLen < k) (a : Int) : ∃ r, pspec_FollowCell k x a = some r ∧ pimpl_follow k x a = some r := by
  unfold pspec_FollowCell pspec_l13Follow pimpl_follow
  obtain ⟨o, h1, h2⟩ := follow_L1 k x hx k 0 a (by omega) (by rw [maxLen_eq] at hk; omega)
  rw [show ((0 : Nat) : Int) = 0 from rfl] at h1 h2
  rw [h1, h2]
  cases o with
  | ret r => exact ⟨r, rfl, rfl⟩
  | done u => exact ⟨_, rfl, rfl⟩
/-- Is there a ref of this number? -/
def rf (l : List GCell) (v : Int) : Bool := l.any fun c => c.gKind == 1 && c.gNum == v
theorem mget_same : ∀ (l : List (Int × Int)) (k v : Int), mget (mset l k v) k = v
  | [], k, v => by simp [mset, mget]
  | p :: l, k, v => by
    rw [mset]
    by_cases h : p.1 = k
    · rw [if_pos h]; simp [mget]
    · rw [if_neg h, mget, if_neg h]; exact mget_same l k v
theorem mget_other : ∀ (l : List (Int × Int)) (k v q : Int), k ≠ q → mget (mset l k v) q = mget l q
  | [], k, v, q, h => by simp [mset, mget, h]
  | p :: l, k, v, q, h => by
    rw [mset]
    by_cases e : p.1 = k
    · rw [if_pos e, mget, mget, if_neg h, if_neg (by rw [e]; exact h)]
    · rw [if_neg e, mget, mget, mget_other l k v q h]
theorem isCell {k : Nat} {x : GHeap} (hn : x.gCells.length ≤ 60000) (a : Int) : pimpl_isCell k x a = some (decide (0 ≤ a ∧ a ≤ (x.gCells.length : Int) - 1)) := by
  unfold pimpl_isCell
  rw [within, wr_i64 (by omega) (by omega)]; rfl
theorem kids_L3 {k : Nat} {x : GHeap} {c : GCell} (hn : x.gCells.length ≤ 60000) (hc : c.gKids.length ≤ maxLen) : ∀ (m j : Nat), j ≤ c.gKids.length → c.gKids.length - j < m →
    ∃ o, pspec_HeapOk_L3 k c x m (j : Int) = some o ∧ pimpl_HeapOk_L3 k c x m (j : Int) = some o ∧ (∀ r, o = .ret r → r = false)
  | 0, j, h1, h2 => by omega
  | m + 1, j, h1, h2 => by
    unfold pspec_HeapOk_L3 pimpl_HeapOk_L3
    by_cases hlt : j < c.gKids.length
    · rw [if_pos (by simpa using hlt), if_pos (by simpa using hlt), at_lt hlt]
      simp only [Option.bind_some]
      rw [l01In, isCell hn, wr_i64 (x := (x.gCells.length : Int) - 1) (by omega) (by omega), wr_succ hlt hc]
      simp only [Option.bind_some]
      by_cases h : 0 ≤ c.gKids[j] ∧ c.gKids[j] ≤ (x.gCells.length : Int) - 1
      · rw [decide_eq_true h]
        simp only [Bool.not_true, Bool.false_eq_true, if_false]
        exact kids_L3 hn hc m (j + 1) (by omega) (by omega)
      · rw [decide_eq_false h]
        exact ⟨_, rfl, rfl, fun r e => by cases e; rfl⟩
    · rw [if_neg (by simpa using hlt), if_neg (by simpa using hlt)]
      exact ⟨_, rfl, rfl, fun r e => by cases e⟩
theorem uniq_L4 {k : Nat} {x : GHeap} {c : GCell} (hn : x.gCells.length ≤ 60000) {i : Nat} (hi : i ≤ x.gCells.length) (hc : c.gKind = 1) : ∀ (m j : Nat), j ≤ i → i - j < m →
    pspec_HeapOk_L4 k (i : Int) c x m (j : Int) = some (if rf ((x.gCells.take i).drop j) c.gNum then .ret false else .done ())
  | 0, j, h1, h2 => by omega
  | m + 1, j, h1, h2 => by
    unfold pspec_HeapOk_L4
    by_cases hlt : j < i
    · have hj : j < x.gCells.length := by omega
      have hw : wr.i64 ((j : Int) + 1) = ((j + 1 : Nat) : Int) := by rw [wr_i64 (by omega) (by omega)]; omega
      have hd : (x.gCells.take i).drop j = x.gCells[j] :: (x.gCells.take i).drop (j + 1) := by
        rw [List.drop_eq_getElem_cons (by simp; omega)]; simp
      have hr : rf (x.gCells[j] :: (x.gCells.take i).drop (j + 1)) c.gNum = ((x.gCells[j].gKind == 1 && x.gCells[j].gNum == c.gNum) || rf ((x.gCells.take i).drop (j + 1)) c.gNum) := by unfold rf; rw [List.any_cons]
      rw [if_pos (by simpa using hlt), if_pos (by simpa using hc), at_lt hj, hd, hr, hw]
      simp only [Option.bind_some]
      cases h1 : (x.gCells[j].gKind == 1) with
      | false =>
        simp only [Bool.false_eq_true, if_false, Bool.false_and, Bool.false_or]
        exact uniq_L4 hn hi hc m (j + 1) (by omega) (by omega)
      | true =>
        cases h2 : (x.gCells[j].gNum == c.gNum) with
        | true => simp
        | false =>
          simp only [Bool.false_eq_true, if_false, if_true, Bool.true_and, Bool.false_or]
          exact uniq_L4 hn hi hc m (j + 1) (by omega) (by omega)
    · rw [if_neg (by simpa using hlt), List.drop_of_length_le (by simp; omega)]; simp [rf]
theorem uniq_L4n {k : Nat} {x : GHeap} {c : GCell} (hc : ¬ c.gKind = 1) (i : Int) {m : Nat} (hm : 0 < m) : pspec_HeapOk_L4 k i c x m 0 = some (.done ()) := by
  obtain ⟨q, rfl⟩ : ∃ q, m = q + 1 := ⟨m - 1, by omega⟩
  unfold pspec_HeapOk_L4
  split
  · rw [if_neg (by simpa using hc)]
  · rfl

/-- What the count of numbers says so far. -/
def Cnt (x : GHeap) (i : Nat) (j : List (Int × Int)) : Prop := ∀ v, mget j v = if rf (x.gCells.take i) v then 1 else 0
theorem rf_snoc {x : GHeap} {i : Nat} (hi : i < x.gCells.length) (v : Int) : rf (x.gCells.take (i + 1)) v = (rf (x.gCells.take i) v || (x.gCells[i].gKind == 1 && x.gCells[i].gNum == v)) := by
  rw [List.take_succ_eq_append_getElem hi]
  unfold rf
  rw [List.any_append]; simp

/-- What holds of the refs from a place on, when a heap is right. -/
def Refs (k : Nat) (x : GHeap) (i : Nat) : Prop := ∀ t, i ≤ t → (h : t < x.gCells.length) → x.gCells[t].gKind = 1 → (-1 ≤ x.gCells[t].gTo ∧ x.gCells[t].gTo ≤ (x.gCells.length : Int) - 1) ∧ ∃ r, pspec_FollowCell k x (t : Int) = some r ∧ 0 ≤ r
def Good (k : Nat) (x : GHeap) (i : Nat) (o : Out Bool Unit) : Prop := (∀ r, o = .ret r → r = false) ∧ (o = .done () → Refs k x i)
theorem Good.bad {k : Nat} {x : GHeap} {i : Nat} : Good k x i (.ret false) := ⟨(fun r e => by cases e; rfl), fun e => by cases e⟩
theorem Good.end_ {k : Nat} {x : GHeap} {i : Nat} {o : Out Bool Unit} (h : x.gCells.length ≤ i) (ho : o = .done ()) : Good k x i o := ⟨(fun r e => by rw [ho] at e; cases e), fun _ t h1 h2 => by omega⟩
theorem Good.step {k : Nat} {x : GHeap} {i : Nat} {o : Out Bool Unit} (h : Good k x (i + 1) o) (hi : i < x.gCells.length) (hp : x.gCells[i].gKind = 1 → (-1 ≤ x.gCells[i].gTo ∧ x.gCells[i].gTo ≤ (x.gCells.length : Int) - 1) ∧ ∃ r, pspec_FollowCell k x (i : Int) = some r ∧ 0 ≤ r) : Good k x i o :=
  ⟨h.1, fun e t h1 h2 hk => by
    by_cases hti : t = i
    · subst hti; exact hp hk
    · exact h.2 e t (by omega) h2 hk⟩

theorem cells_L1 {k : Nat} {x : GHeap} (hn : x.gCells.length ≤ 60000) (hok : okL GCell.ok x.gCells) (hk : maxLen < k) : ∀ (m i : Nat) (j : List (Int × Int)), i ≤ x.gCells.length → x.gCells.length - i < m → Cnt x i j →
    ∃ o, pspec_HeapOk_L1 k x m (i : Int) = some o ∧ pimpl_HeapOk_L1 k x m (i : Int) j = some o ∧ Good k x i o
  | 0, i, j, h1, h2, h3 => by omega
  | m + 1, i, j, h1, h2, h3 => by
    have hM := maxLen_eq
    unfold pspec_HeapOk_L1 pimpl_HeapOk_L1
    by_cases hlt : i < x.gCells.length
    · have hw : wr.i64 ((i : Int) + 1) = ((i + 1 : Nat) : Int) := by rw [wr_i64 (by omega) (by omega)]; omega
      have hkids : x.gCells[i].gKids.length ≤ maxLen := (hok.2 _ (List.getElem_mem hlt)).2.2.2.2.1
      obtain ⟨o3, a1, a2, a3⟩ := kids_L3 (k := k) (c := x.gCells[i]) hn hkids k 0 (by omega) (by omega)
      rw [show ((0 : Nat) : Int) = 0 from rfl] at a1 a2
      obtain ⟨fo, f1, f2⟩ := followBoth (k := k) (x := x) (by omega) hk (i : Int)
      have hw1 : wr.i64 ((x.gCells.length : Int) - 1) = (x.gCells.length : Int) - 1 := wr_i64 (by omega) (by omega)
      rw [if_pos (by simpa using hlt), if_pos (by simpa using hlt), at_lt hlt]
      simp only [Option.bind_some]
      rw [l01In, within]
      simp only [Option.bind_some]
      by_cases hkd : 1 ≤ x.gCells[i].gKind ∧ x.gCells[i].gKind ≤ 4
      · rw [decide_eq_true hkd]
        simp only [Bool.not_true, Bool.false_eq_true, if_false]
        by_cases hk1 : x.gCells[i].gKind = 1
        · have hk1' : (x.gCells[i].gKind == 1) = true := by simpa using hk1
          have u4 := uniq_L4 (k := k) (c := x.gCells[i]) hn (i := i) (by omega) hk1 k 0 (by omega) (by omega)
          rw [show ((0 : Nat) : Int) = 0 from rfl, List.drop_zero] at u4
          have hj := h3 x.gCells[i].gNum
          rw [if_pos hk1', if_pos hk1', l01In, mget_same, hw1, isCell hn, f1, f2]
          simp only [Option.bind_some]
          cases hr : rf (x.gCells.take i) x.gCells[i].gNum with
          | true =>
            -- the number was met before
            rw [hr, if_pos rfl] at hj
            rw [hr, if_pos rfl] at u4
            have : wr.i64 (mget j x.gCells[i].gNum + 1) > 1 := by rw [hj]; decide
            rw [if_pos (show decide (wr.i64 (mget j x.gCells[i].gNum + 1) > 1) = true from decide_eq_true this)]
            refine ⟨.ret false, ?_, rfl, Good.bad⟩
            split
            · rfl
            · split
              · rfl
              · unfold pspec_HeapOk_J2
                rw [a1]
                simp only [Option.bind_some]
                cases o3 with
                | ret r =>
                  have : r = false := a3 r rfl
                  subst this; rfl
                | done u => cases u; show (pspec_HeapOk_L4 k (i : Int) x.gCells[i] x k 0).bind _ = _; rw [u4]; rfl
          | false =>
            rw [hr, if_neg (by simp)] at hj
            rw [hr, if_neg (by simp)] at u4
            have hv : wr.i64 (mget j x.gCells[i].gNum + 1) = 1 := by rw [hj]; decide
            rw [hv, if_neg (show ¬ decide ((1 : Int) > 1) = true by decide)]
            have hcnt : Cnt x (i + 1) (mset j x.gCells[i].gNum 1) := by
              intro v
              rw [rf_snoc hlt, hk1', Bool.true_and]
              by_cases hv : x.gCells[i].gNum = v
              · subst hv; rw [mget_same]; simp
              · rw [mget_other _ _ _ _ hv, h3 v]; simp [hv]
            have rest : ∃ o, pspec_HeapOk_J2 k (pspec_HeapOk_L1 k x m) x.gCells[i] x (i : Int) = some o ∧ pimpl_HeapOk_J2 k (pimpl_HeapOk_L1 k x m) x.gCells[i] x (i : Int) (mset j x.gCells[i].gNum 1) = some o ∧ Good k x (i + 1) o := by
              unfold pspec_HeapOk_J2 pimpl_HeapOk_J2
              rw [a1, a2]
              simp only [Option.bind_some]
              cases o3 with
              | ret r => cases a3 r rfl; exact ⟨_, rfl, rfl, Good.bad⟩
              | done u =>
                cases u
                simp only [u4, Option.bind_some, hw]
                exact cells_L1 hn hok hk m (i + 1) _ (by omega) (by omega) hcnt
            obtain ⟨o, g1, g2, g3⟩ := rest
            by_cases ht : x.gCells[i].gTo = -1
            · have hin : (-1 : Int) ≤ x.gCells[i].gTo ∧ x.gCells[i].gTo ≤ (x.gCells.length : Int) - 1 := by omega
              rw [decide_eq_true hin, if_neg (show ¬ (x.gCells[i].gTo != -1) = true by simp [ht])]
              simp only [Bool.not_true, Bool.false_eq_true, if_false]
              split
              · exact ⟨_, rfl, rfl, Good.bad⟩
              · rename_i hf
                exact ⟨o, g1, g2, g3.step hlt fun _ => ⟨hin, fo, f1, by simpa using hf⟩⟩
            · rw [if_pos (show (x.gCells[i].gTo != -1) = true by simpa using ht)]
              by_cases hin : (0 : Int) ≤ x.gCells[i].gTo ∧ x.gCells[i].gTo ≤ (x.gCells.length : Int) - 1
              · rw [decide_eq_true hin, decide_eq_true (show (-1 : Int) ≤ x.gCells[i].gTo ∧ x.gCells[i].gTo ≤ (x.gCells.length : Int) - 1 from ⟨by omega, hin.2⟩)]
                simp only [Bool.not_true, Bool.false_eq_true, if_false]
                split
                · exact ⟨_, rfl, rfl, Good.bad⟩
                · rename_i hf
                  exact ⟨o, g1, g2, g3.step hlt fun _ => ⟨⟨by omega, hin.2⟩, fo, f1, by simpa using hf⟩⟩
              · rw [decide_eq_false hin, decide_eq_false (show ¬ ((-1 : Int) ≤ x.gCells[i].gTo ∧ x.gCells[i].gTo ≤ (x.gCells.length : Int) - 1) by omega)]
                exact ⟨_, rfl, rfl, Good.bad⟩
        · have hk1' : ¬ (x.gCells[i].gKind == 1) = true := by simpa using hk1
          have u4 := uniq_L4n (k := k) (x := x) hk1 (i : Int) (m := k) (by omega)
          rw [if_neg hk1', if_neg hk1']
          unfold pspec_HeapOk_J2 pimpl_HeapOk_J2
          rw [a1, a2]
          simp only [Option.bind_some]
          cases o3 with
          | ret r => cases a3 r rfl; exact ⟨_, rfl, rfl, Good.bad⟩
          | done u =>
            cases u
            simp only [u4, Option.bind_some, hw]
            have hcnt : Cnt x (i + 1) j := fun v => by
              rw [rf_snoc hlt, h3 v]
              have : (x.gCells[i].gKind == 1) = false := by simpa using hk1
              rw [this]; simp
            obtain ⟨o, g1, g2, g3⟩ := cells_L1 hn hok hk m (i + 1) j (by omega) (by omega) hcnt
            exact ⟨o, g1, g2, g3.step hlt fun h => absurd h hk1⟩
      · rw [decide_eq_false hkd]
        exact ⟨_, rfl, rfl, Good.bad⟩
    · rw [if_neg (by simpa using hlt), if_neg (by simpa using hlt)]
      exact ⟨_, rfl, rfl, Good.end_ (by omega) rfl⟩

theorem trail_L {k : Nat} {x : GHeap} (hn : x.gCells.length ≤ 60000) (ht : x.gTrail.length ≤ maxLen) : ∀ (m j : Nat), j ≤ x.gTrail.length → x.gTrail.length - j < m →
    ∃ o, pspec_HeapOk_L5 k x m (j : Int) = some o ∧ pimpl_HeapOk_L4 k x m (j : Int) = some o ∧ (∀ r, o = .ret r → r = false) ∧ (o = .done () → ∀ i (h : i < x.gTrail.length), j ≤ i → 0 ≤ x.gTrail[i] ∧ x.gTrail[i] < (x.gCells.length : Int))
  | 0, j, h1, h2 => by omega
  | m + 1, j, h1, h2 => by
    unfold pspec_HeapOk_L5 pimpl_HeapOk_L4
    by_cases hlt : j < x.gTrail.length
    · rw [if_pos (by simpa using hlt), if_pos (by simpa using hlt), at_lt hlt]
      simp only [Option.bind_some]
      rw [l01In, isCell hn, wr_i64 (x := (x.gCells.length : Int) - 1) (by omega) (by omega), wr_succ hlt ht]
      simp only [Option.bind_some]
      by_cases h : 0 ≤ x.gTrail[j] ∧ x.gTrail[j] ≤ (x.gCells.length : Int) - 1
      · rw [decide_eq_true h]
        simp only [Bool.not_true, Bool.false_eq_true, if_false]
        obtain ⟨q, hq⟩ : ∃ q : Nat, x.gTrail[j] = (q : Int) := ⟨x.gTrail[j].toNat, by omega⟩
        rw [hq, at_lt (show q < x.gCells.length by omega)]
        simp only [Option.bind_some]
        split
        · exact ⟨_, rfl, rfl, (fun r e => by cases e; rfl), fun e => by cases e⟩
        · obtain ⟨o, g1, g2, g3, g4⟩ := trail_L (k := k) hn ht m (j + 1) (by omega) (by omega)
          refine ⟨o, g1, g2, g3, fun e i hi hj => ?_⟩
          by_cases ei : i = j
          · subst ei; omega
          · exact g4 e i hi (by omega)
      · rw [decide_eq_false h]
        exact ⟨_, rfl, rfl, (fun r e => by cases e; rfl), fun e => by cases e⟩
    · rw [if_neg (by simpa using hlt), if_neg (by simpa using hlt)]
      exact ⟨_, rfl, rfl, (fun r e => by cases e), fun _ i hi hj => by omega⟩

theorem heapOk {k : Nat} {x : GHeap} (hx : x.ok) (hk : maxLen < k) : ∃ b, pspec_HeapOk k x = some b ∧ pimpl_HeapOk k x = some b ∧ (b = true → x.gCells.length ≤ 60000 ∧ ∀ i (h : i < x.gTrail.length), 0 ≤ x.gTrail[i] ∧ x.gTrail[i] < (x.gCells.length : Int)) := by
  have hM := maxLen_eq
  unfold pspec_HeapOk pimpl_HeapOk
  by_cases h : (x.gCells.length : Int) > 60000
  · rw [if_pos (by simpa using h), if_pos (by simpa using h)]; exact ⟨_, rfl, rfl, fun e => by cases e⟩
  · have hn : x.gCells.length ≤ 60000 := by omega
    obtain ⟨o, g1, g2, g3⟩ := cells_L1 (k := k) hn hx.1 hk k 0 [] (by omega) (by omega) (fun v => by simp [mget, rf])
    obtain ⟨o2, q1, q2, q3, q4⟩ := trail_L (k := k) hn hx.2.1 k 0 (by omega) (by have := hx.2.1; omega)
    rw [show ((0 : Nat) : Int) = 0 from rfl] at g1 g2 q1 q2
    rw [if_neg (by simpa using h), if_neg (by simpa using h), g1, g2]
    simp only [Option.bind_some]
    cases o with
    | ret r => cases g3.1 r rfl; exact ⟨_, rfl, rfl, fun e => by cases e⟩
    | done u =>
      cases u
      simp only []
      rw [q1, q2]
      simp only [Option.bind_some]
      cases o2 with
      | ret r => cases q3 r rfl; exact ⟨_, rfl, rfl, fun e => by cases e⟩
      | done u => cases u; exact ⟨_, rfl, rfl, fun _ => ⟨hn, fun i hi => q4 rfl i hi (Nat.zero_le _)⟩⟩
theorem l34Ints {k : Nat} {l : List Int} (hl : l.length ≤ 8388608) : pspec_l34Ints k l = some l := by
  unfold pspec_l34Ints
  rw [if_pos (by simp; omega)]
theorem l34Cells_L1 {k : Nat} {l : List GCell} (hl : l.length ≤ 8388608) (hf : ∀ x ∈ l, pspec_l34Cell k x = some x) :
    ∀ (m j : Nat), j ≤ l.length → l.length - j < m → pspec_l34Cells_L1 k l m (l.take j) (j : Int) = some (.done l)
  | 0, j, h1, h2 => by omega
  | m + 1, j, h1, h2 => by
    unfold pspec_l34Cells_L1
    have hm : l.length ≤ maxLen := by rw [maxLen_eq]; omega
    by_cases hlt : j < l.length
    · rw [if_pos (by simpa using hlt), at_lt hlt]
      simp only [Option.bind_some, hf _ (List.getElem_mem hlt)]
      rw [if_pos (by simp; omega), wr_succ hlt hm, ← List.take_succ_eq_append_getElem hlt]
      exact l34Cells_L1 hl hf m (j + 1) (by omega) (by omega)
    · rw [if_neg (by simpa using hlt), List.take_of_length_le (by omega)]
theorem nflat {α : Type} : ∀ l : List α, nsum (fun _ => 0) l = l.length
  | [] => rfl
  | x :: l => by simp only [nsum, nflat l, List.length_cons]; omega
theorem nCell_len (c : GCell) : nCell c = c.gKids.length := nflat _
theorem l34Heap {k : Nat} {x : GHeap} (h1 : nsum nCell x.gCells ≤ 8388608) (h2 : x.gTrail.length ≤ 8388608) (hk : maxLen < k) : pspec_l34Heap k x = some x := by
  have hM := maxLen_eq
  have hlen := nsum_len nCell x.gCells
  have e := l34Cells_L1 (k := k) (l := x.gCells) (by omega) (fun c hc => by
    have := nsum_mem (n := nCell) hc
    have hn := nCell_len c
    unfold pspec_l34Cell
    rw [l34Ints (by omega)]; rfl) k 0 (by omega) (by omega)
  rw [show ((0 : Nat) : Int) = 0 from rfl, List.take_zero] at e
  unfold pspec_l34Heap pspec_l34Cells
  rw [e]
  simp only [Option.bind_some, l34Ints h2]
theorem copyHeap_L1 {k : Nat} {x : GHeap} {o : List Int} (h1 : nsum nCell x.gCells ≤ 8388608) : ∀ (m j : Nat), j ≤ x.gCells.length → x.gCells.length - j < m → pimpl_copyHeap_L1 k x m (j : Int) (.mk (x.gCells.take j) o) = some (.done (.mk x.gCells o))
  | 0, j, h1, h2 => by omega
  | m + 1, j, h2, h3 => by
    have hlen := nsum_len nCell x.gCells
    have hm : x.gCells.length ≤ maxLen := by rw [maxLen_eq]; omega
    unfold pimpl_copyHeap_L1
    by_cases hlt : j < x.gCells.length
    · have hmem := nsum_mem (n := nCell) (List.getElem_mem hlt)
      have hn := nCell_len x.gCells[j]
      rw [if_pos (by simpa using hlt), at_lt hlt]
      simp only [Option.bind_some]
      rw [if_pos (by simp; omega), if_pos (by simp; omega), wr_succ hlt hm, ← List.take_succ_eq_append_getElem hlt]
      exact copyHeap_L1 h1 m (j + 1) (by omega) (by omega)
    · rw [if_neg (by simpa using hlt), List.take_of_length_le (by omega)]
theorem copyHeap {k : Nat} {x : GHeap} (h1 : nsum nCell x.gCells ≤ 8388608) (h2 : x.gTrail.length ≤ 8388608) (hk : maxLen < k) : pimpl_copyHeap k x = some x := by
  have hM := maxLen_eq
  have hlen := nsum_len nCell x.gCells
  have e := copyHeap_L1 (k := k) (x := x) (o := x.gTrail) h1 k 0 (by omega) (by omega)
  rw [show ((0 : Nat) : Int) = 0 from rfl, List.take_zero] at e
  unfold pimpl_copyHeap
  rw [if_pos (by simp; omega), e]; rfl
theorem name_L1 (k : Nat) {n : Int} (h0 : 0 ≤ n) (h1 : n ≤ 200000) : ∀ (q m : Nat) (f : GL13Heap), (n + 1 - (f.gRefs.length : Int)).toNat ≤ q → q < m → f.gRefs.length ≤ 200001 →
    ∃ g, pspec_l13Heap_name_L1 k n m f = some (.done g) ∧ g.gCells = f.gCells ∧ g.gTrail = f.gTrail ∧ g.gRefs.length ≤ 200001 ∧ n < (g.gRefs.length : Int)
  | q, 0, f, h2, h3, h4 => by omega
  | q, m + 1, f, h2, h3, h4 => by
    unfold pspec_l13Heap_name_L1
    by_cases hl : (f.gRefs.length : Int) ≤ n
    · rw [if_pos (by simpa using hl), if_pos (by simp; omega)]
      have hq : 1 ≤ q := by omega
      obtain ⟨g, e, a, b, c, d⟩ := name_L1 k h0 h1 (q - 1) m (GL13Heap.mk f.gCells f.gTrail (f.gRefs ++ [-1]) f.gPairs) (by simp; omega) (by omega) (by simp; omega)
      exact ⟨g, e, a, b, c, d⟩
    · rw [if_neg (by simpa using hl)]
      exact ⟨f, rfl, rfl, rfl, h4, by omega⟩
theorem name {k : Nat} {n v : Int} (h0 : 0 ≤ n) (h1 : n ≤ 200000) (hk : maxLen < k) {f : GL13Heap} (hf : f.gRefs.length ≤ 200001) :
    ∃ g, pspec_l13Heap_name k f n v = some g ∧ g.gCells = f.gCells ∧ g.gTrail = f.gTrail ∧ g.gRefs.length ≤ 200001 := by
  have hM := maxLen_eq
  obtain ⟨g, e, a, b, c, d⟩ := name_L1 k h0 h1 200001 k f (by omega) (by omega) hf
  obtain ⟨q, rfl⟩ : ∃ q : Nat, n = (q : Int) := ⟨n.toNat, by omega⟩
  unfold pspec_l13Heap_name
  rw [e]
  simp only [Option.bind_some]
  rw [at_lt (show q < g.gRefs.length by omega)]
  simp only [Option.bind_some]
  split
  · exact ⟨_, rfl, a, b, by simpa using c⟩
  · exact ⟨g, rfl, a, b, c⟩
theorem of_L1 {k : Nat} {x : GHeap} (hx : x.gCells.length ≤ 1048576) (hk : maxLen < k) : ∀ (m j : Nat) (f : GL13Heap), j ≤ x.gCells.length → x.gCells.length - j < m → f.gRefs.length ≤ 200001 →
    ∃ g, pspec_l13Of_L1 k x m (j : Int) f = some (.done g) ∧ g.gCells = f.gCells ∧ g.gTrail = f.gTrail ∧ g.gRefs.length ≤ 200001
  | 0, j, f, h1, h2, h3 => by omega
  | m + 1, j, f, h1, h2, h3 => by
    have hM := maxLen_eq
    have hm : x.gCells.length ≤ maxLen := by omega
    unfold pspec_l13Of_L1
    by_cases hlt : j < x.gCells.length
    · have J2 : ∀ b : Bool, (b = true → 0 ≤ x.gCells[j].gNum ∧ x.gCells[j].gNum ≤ 200000) → ∃ g, pspec_l13Of_J2 k (pspec_l13Of_L1 k x m) x (j : Int) f b = some (.done g) ∧ g.gCells = f.gCells ∧ g.gTrail = f.gTrail ∧ g.gRefs.length ≤ 200001 := by
        intro b hb
        unfold pspec_l13Of_J2
        cases b with
        | false =>
          rw [if_neg (by simp), wr_succ hlt hm]
          exact of_L1 hx hk m (j + 1) f (by omega) (by omega) h3
        | true =>
          obtain ⟨g, e, a, b, c⟩ := name (k := k) (v := (j : Int)) (hb rfl).1 (hb rfl).2 hk h3
          rw [if_pos rfl, at_lt hlt]
          simp only [Option.bind_some]
          rw [e]
          simp only [Option.bind_some]
          rw [wr_succ hlt hm]
          obtain ⟨g', e', a', b', c'⟩ := of_L1 hx hk m (j + 1) g (by omega) (by omega) c
          exact ⟨g', e', by rw [a', a], by rw [b', b], c'⟩
      rw [if_pos (by simpa using hlt), at_lt hlt]
      simp only [Option.bind_some]
      split
      · rw [l01In]
        simp only [Option.bind_some]
        exact J2 _ (fun h => of_decide_eq_true h)
      · exact J2 _ (fun h => by cases h)
    · rw [if_neg (by simpa using hlt)]
      exact ⟨f, rfl, rfl, rfl, h3⟩
theorem l13Of {k : Nat} {x : GHeap} (hx : x.gCells.length ≤ 1048576) (ht : x.gTrail.length ≤ 1048576) (hk : maxLen < k) : ∃ g, pspec_l13Of k x = some g ∧ g.gCells = x.gCells ∧ g.gTrail = x.gTrail ∧ g.gRefs.length ≤ 200001 := by
  have hM := maxLen_eq
  obtain ⟨g, e, a, b, c⟩ := of_L1 (k := k) hx hk k 0 (GL13Heap.mk x.gCells x.gTrail [] 0) (by omega) (by omega) (by simp)
  rw [show ((0 : Nat) : Int) = 0 from rfl] at e
  unfold pspec_l13Of
  rw [if_pos (by simp; omega), if_pos (by simp; omega), e]
  exact ⟨g, rfl, a, b, c⟩
theorem heapOf {k : Nat} {f : GL13Heap} (hx : f.gCells.length ≤ 1048576) (ht : f.gTrail.length ≤ 1048577) : pspec_l13Heap_heap k f = some (f, GHeap.mk f.gCells f.gTrail) := by
  unfold pspec_l13Heap_heap
  rw [if_pos (by simp; omega), if_pos (by simp; omega)]
theorem copy_same : @pimpl_copyHeap_d = @pimpl_copyHeap := by kernel_rfl
theorem nsum_set {n : GCell → Nat} : ∀ (l : List GCell) (j : Nat) (c : GCell), (∀ x, l[j]? = some x → n c = n x) → nsum n (l.set j c) = nsum n l
  | [], j, c, h => rfl
  | x :: l, 0, c, h => by rw [List.set_cons_zero, nsum, nsum, h x rfl]
  | x :: l, j + 1, c, h => by rw [List.set_cons_succ, nsum, nsum, nsum_set l j c (fun y hy => h y (by simpa using hy))]
theorem nsum_take {n : GCell → Nat} : ∀ (l : List GCell) (j : Nat), nsum n (l.take j) ≤ nsum n l
  | [], j => by simp [nsum]
  | x :: l, 0 => by simp [nsum]
  | x :: l, j + 1 => by have := nsum_take (n := n) l j; simp only [List.take_succ_cons, nsum]; omega

/-- A cell that stands for nothing. -/
def zc (c : GCell) : GCell := GCell.mk c.gKind c.gName c.gNum (-1) c.gKids
theorem zc_zc (c : GCell) : zc (zc c) = zc c := rfl
/-- The trail, between these places, tells of the cell. -/
def In (T : List Int) (a b q : Nat) : Prop := ∃ p, a ≤ p ∧ p < b ∧ T[p]? = some (q : Int)
/-- The cells of which the trail tells stand for nothing. -/
def Clr (T : List Int) (a b : Nat) (C D : List GCell) : Prop :=
  D.length = C.length ∧ nsum nCell D = nsum nCell C ∧ (∀ q, In T a b q → D[q]? = (C[q]?).map zc) ∧ (∀ q, ¬ In T a b q → D[q]? = C[q]?)
theorem Clr.uniq {T : List Int} {a b : Nat} {C D D' : List GCell} (h : Clr T a b C D) (h' : Clr T a b C D') : D = D' := by
  apply List.ext_getElem?
  intro q
  by_cases hq : In T a b q
  · rw [h.2.2.1 q hq, h'.2.2.1 q hq]
  · rw [h.2.2.2 q hq, h'.2.2.2 q hq]
theorem Clr.nil {T : List Int} {a : Nat} {C : List GCell} {b : Nat} (h : b ≤ a) : Clr T a b C C :=
  ⟨rfl, rfl, fun q ⟨p, h1, h2, _⟩ => by omega, fun _ _ => rfl⟩
theorem set_len {C : List GCell} {q : Nat} (hq : q < C.length) : (C.set q (zc C[q])).length = C.length ∧ nsum nCell (C.set q (zc C[q])) = nsum nCell C := by
  refine ⟨by simp, nsum_set _ _ _ (fun x hx => ?_)⟩
  rw [List.getElem?_eq_getElem hq] at hx
  cases hx
  rw [nCell_len, nCell_len]; rfl
/-- One more, ahead. -/
theorem Clr.ahead {T : List Int} {a b q : Nat} {C D : List GCell} (hab : a < b) (hq : q < C.length) (ht : T[a]? = some (q : Int)) (h : Clr T (a + 1) b (C.set q (zc C[q])) D) : Clr T a b C D := by
  obtain ⟨h1, h2, h3, h4⟩ := h
  obtain ⟨s1, s2⟩ := set_len hq
  have split : ∀ r, In T a b r → r = q ∨ In T (a + 1) b r := by
    rintro r ⟨p, p1, p2, p3⟩
    by_cases e : p = a
    · subst e; rw [ht] at p3; left; have := Option.some.inj p3; omega
    · exact .inr ⟨p, by omega, p2, p3⟩
  refine ⟨h1.trans s1, h2.trans s2, fun r hr => ?_, fun r hr => ?_⟩
  · by_cases hr2 : In T (a + 1) b r
    · rw [h3 r hr2, List.getElem?_set]
      by_cases e : q = r
      · subst e; rw [if_pos rfl, if_pos hq, List.getElem?_eq_getElem hq]; rfl
      · rw [if_neg e]
    · rw [h4 r hr2]
      rcases split r hr with rfl | hr3
      · rw [List.getElem?_set, if_pos rfl, if_pos hq, List.getElem?_eq_getElem hq]; rfl
      · exact absurd hr3 hr2
  · have n1 : ¬ In T (a + 1) b r := fun ⟨p, p1, p2, p3⟩ => hr ⟨p, by omega, p2, p3⟩
    have n2 : q ≠ r := fun e => hr ⟨a, Nat.le_refl _, hab, e ▸ ht⟩
    rw [h4 r n1, List.getElem?_set, if_neg n2]
/-- One more, behind. -/
theorem Clr.behind {T : List Int} {a b q : Nat} {C D : List GCell} (hab : a ≤ b) (hq : q < C.length) (ht : T[b]? = some (q : Int)) (h : Clr T a b (C.set q (zc C[q])) D) : Clr T a (b + 1) C D := by
  obtain ⟨h1, h2, h3, h4⟩ := h
  obtain ⟨s1, s2⟩ := set_len hq
  have split : ∀ r, In T a (b + 1) r → r = q ∨ In T a b r := by
    rintro r ⟨p, p1, p2, p3⟩
    by_cases e : p = b
    · subst e; rw [ht] at p3; left; have := Option.some.inj p3; omega
    · exact .inr ⟨p, p1, by omega, p3⟩
  refine ⟨h1.trans s1, h2.trans s2, fun r hr => ?_, fun r hr => ?_⟩
  · by_cases hr2 : In T a b r
    · rw [h3 r hr2, List.getElem?_set]
      by_cases e : q = r
      · subst e; rw [if_pos rfl, if_pos hq, List.getElem?_eq_getElem hq]; rfl
      · rw [if_neg e]
    · rw [h4 r hr2]
      rcases split r hr with rfl | hr3
      · rw [List.getElem?_set, if_pos rfl, if_pos hq, List.getElem?_eq_getElem hq]; rfl
      · exact absurd hr3 hr2
  · have n1 : ¬ In T a b r := fun ⟨p, p1, p2, p3⟩ => hr ⟨p, p1, by omega, p3⟩
    have n2 : q ≠ r := fun e => hr ⟨b, hab, Nat.lt_succ_self _, e ▸ ht⟩
    rw [h4 r n1, List.getElem?_set, if_neg n2]

theorem wr_pred {j : Nat} (h : j ≤ 16777216) : wr.i64 ((j : Int) - 1) = (j : Int) - 1 := wr_i64 (by omega) (by omega)

/-- The reference goes back through the trail. -/
theorem undo_L1 {k : Nat} {lo : Nat} : ∀ (m j : Nat) (f : GL13Heap), j ≤ f.gTrail.length → f.gTrail.length ≤ 8388608 → j < m → (∀ i (h : i < f.gTrail.length), 0 ≤ f.gTrail[i] ∧ f.gTrail[i] < (f.gCells.length : Int)) →
    ∃ D, pspec_l13Heap_undo_L1 k (lo : Int) m ((j : Int) - 1) f = some (.done (GL13Heap.mk D f.gTrail f.gRefs f.gPairs)) ∧ Clr f.gTrail lo j f.gCells D
  | 0, j, f, h1, h2, h3, h4 => by omega
  | m + 1, j, f, h1, h2, h3, h4 => by
    unfold pspec_l13Heap_undo_L1
    by_cases hj : lo < j
    · obtain ⟨i, rfl⟩ : ∃ i, j = i + 1 := ⟨j - 1, by omega⟩
      have hi : i < f.gTrail.length := by omega
      have e : ((i + 1 : Nat) : Int) - 1 = (i : Int) := by omega
      obtain ⟨t0, t1⟩ := h4 i hi
      obtain ⟨q, hq⟩ : ∃ q : Nat, f.gTrail[i] = (q : Int) := ⟨f.gTrail[i].toNat, by omega⟩
      have hqc : q < f.gCells.length := by omega
      have c1 : decide ((i : Int) ≥ (lo : Int)) = true := decide_eq_true (by omega)
      have c2 : decide ((q : Int) < (f.gCells.length : Int)) = true := decide_eq_true (by omega)
      rw [e, if_pos c1, at_lt hi]
      simp only [Option.bind_some]
      rw [hq, if_pos c2]
      rw [at_lt hqc]
      simp only [Option.bind_some, Int.toNat_natCast]
      rw [wr_pred (by omega)]
      obtain ⟨D, g1, g2⟩ := undo_L1 (k := k) (lo := lo) m i (GL13Heap.mk (f.gCells.set q (zc f.gCells[q])) f.gTrail f.gRefs f.gPairs) (by show i ≤ f.gTrail.length; omega) h2 (by omega) (fun r hr => by
        have := h4 r hr
        show 0 ≤ f.gTrail[r] ∧ f.gTrail[r] < ((f.gCells.set q (zc f.gCells[q])).length : Int)
        rw [List.length_set]; exact this)
      refine ⟨D, g1, Clr.behind (by omega) hqc ?_ g2⟩
      rw [List.getElem?_eq_getElem hi, hq]
    · have c1 : ¬ decide ((j : Int) - 1 ≥ (lo : Int)) = true := by rw [decide_eq_false (by omega)]; exact Bool.false_ne_true
      rw [if_neg c1]
      exact ⟨f.gCells, rfl, Clr.nil (by omega)⟩

theorem undo_L4 {k : Nat} : ∀ (m j : Nat) (f : GL13Heap), j ≤ f.gRefs.length → f.gRefs.length ≤ 8388608 → j < m →
    ∃ R, pspec_l13Heap_undo_L4 k m ((j : Int) - 1) f = some (.done (GL13Heap.mk f.gCells f.gTrail R f.gPairs))
  | 0, j, f, h1, h2, h3 => by omega
  | m + 1, j, f, h1, h2, h3 => by
    unfold pspec_l13Heap_undo_L4
    cases j with
    | zero =>
      have c1 : ¬ decide (((0 : Nat) : Int) - 1 ≥ 0) = true := by rw [decide_eq_false (by omega)]; exact Bool.false_ne_true
      rw [if_neg c1]
      exact ⟨f.gRefs, rfl⟩
    | succ i =>
      have hi : i < f.gRefs.length := by omega
      have e : ((i + 1 : Nat) : Int) - 1 = (i : Int) := by omega
      have c1 : decide ((i : Int) ≥ 0) = true := decide_eq_true (by omega)
      rw [e, if_pos c1, at_lt hi]
      simp only [Option.bind_some]
      rw [wr_pred (by omega)]
      split
      · obtain ⟨R, g⟩ := undo_L4 (k := k) m i (GL13Heap.mk f.gCells f.gTrail (f.gRefs.set ((i : Int).toNat) (-1)) f.gPairs) (by simp <;> omega) (by simp <;> omega) (by omega)
        exact ⟨R, g⟩
      · exact undo_L4 m i f (by omega) h2 (by omega)

/-- So many are left. -/
def upTo (n : Nat) (v : Int) : Nat := min n v.toNat
theorem mm {n : Nat} {v : Int} : (if (n : Int) < (if 0 > v then 0 else v) then (n : Int) else (if 0 > v then 0 else v)) = (upTo n v : Int) := by
  unfold upTo
  by_cases h : 0 > v
  · rw [if_pos h, if_neg (by omega)]; omega
  · rw [if_neg h]
    by_cases h2 : (n : Int) < v
    · rw [if_pos h2]; omega
    · rw [if_neg h2]; omega

/-- The program goes on through the trail. -/
theorem undoI_L1 {k : Nat} {e : GHeap} {b : Int} {lo : Nat} (hlo : upTo e.gTrail.length b = lo) : ∀ (m j : Nat) (f : GHeap), f.gTrail = e.gTrail → lo + j ≤ f.gTrail.length → f.gTrail.length ≤ 8388608 → f.gTrail.length - (lo + j) < m → (∀ i (h : i < f.gTrail.length), 0 ≤ f.gTrail[i] ∧ f.gTrail[i] < (f.gCells.length : Int)) →
    ∃ D, pimpl_UndoTo_L1 k e b m (j : Int) f = some (.done (GHeap.mk D f.gTrail)) ∧ Clr f.gTrail (lo + j) f.gTrail.length f.gCells D
  | 0, j, f, h0, h1, h2, h3, h4 => by omega
  | m + 1, j, f, h0, h1, h2, h3, h4 => by
    unfold pimpl_UndoTo_L1
    rw [mm, hlo, List.length_map, ← h0]
    simp only [Int.toNat_natCast]
    by_cases hj : lo + j < f.gTrail.length
    · obtain ⟨t0, t1⟩ := h4 (lo + j) hj
      obtain ⟨q, hq⟩ : ∃ q : Nat, f.gTrail[lo + j] = (q : Int) := ⟨f.gTrail[lo + j].toNat, by omega⟩
      have hqc : q < f.gCells.length := by omega
      have c1 : decide ((j : Int) < ((f.gTrail.length - lo : Nat) : Int)) = true := decide_eq_true (by omega)
      have hq' : f.gTrail[lo + j]? = some (q : Int) := by rw [List.getElem?_eq_getElem hj, hq]
      rw [if_pos c1, if_pos ⟨by omega, by omega⟩, hq']
      simp only [Option.bind_some]
      rw [at_lt hqc]
      simp only [Option.bind_some, Int.toNat_natCast]
      rw [wr_i64 (x := (j : Int) + 1) (by omega) (by omega), show (j : Int) + 1 = ((j + 1 : Nat) : Int) by omega]
      obtain ⟨D, g1, g2⟩ := undoI_L1 (k := k) hlo m (j + 1) (GHeap.mk (f.gCells.set q (zc f.gCells[q])) f.gTrail) h0 (by show lo + (j + 1) ≤ f.gTrail.length; omega) h2 (by show f.gTrail.length - (lo + (j + 1)) < m; omega) (fun r hr => by
        have := h4 r hr
        show 0 ≤ f.gTrail[r] ∧ f.gTrail[r] < ((f.gCells.set q (zc f.gCells[q])).length : Int)
        rw [List.length_set]; exact this)
      exact ⟨D, g1, Clr.ahead hj hqc hq' g2⟩
    · have c1 : ¬ decide ((j : Int) < ((f.gTrail.length - lo : Nat) : Int)) = true := by rw [decide_eq_false (by omega)]; exact Bool.false_ne_true
      rw [if_neg c1]
      exact ⟨f.gCells, rfl, Clr.nil (by omega)⟩

/-- What is left of a list. -/
theorem takeUp {α : Type} (l : List α) (v : Int) : l.take (upTo l.length v) = if v < 0 then [] else if v < (l.length : Int) then l.take v.toNat else l := by
  unfold upTo
  by_cases h : v < 0
  · rw [if_pos h, show min l.length v.toNat = 0 by omega, List.take_zero]
  · rw [if_neg h]
    by_cases h2 : v < (l.length : Int)
    · rw [if_pos h2, show min l.length v.toNat = v.toNat by omega]
    · rw [if_neg h2, List.take_of_length_le (by omega)]

theorem undoS {k : Nat} {g : GL13Heap} (hR : g.gRefs.length ≤ 200001) (hT : g.gTrail.length ≤ 8388608) (hk : maxLen < k) (hin : ∀ i (h : i < g.gTrail.length), 0 ≤ g.gTrail[i] ∧ g.gTrail[i] < (g.gCells.length : Int)) (c t : Nat) :
    ∃ D g', pspec_l13Heap_undo k g (c : Int) (t : Int) = some g' ∧ Clr g.gTrail (min g.gTrail.length t) g.gTrail.length g.gCells D ∧ g'.gCells = D.take c ∧ g'.gTrail = g.gTrail.take t := by
  have hM := maxLen_eq
  have hkT : g.gTrail.length < k := by omega
  obtain ⟨D, g1, g2⟩ := undo_L1 (k := k) (lo := t) k g.gTrail.length g (Nat.le_refl _) hT hkT hin
  have J3 : ∀ h : GL13Heap, h.gRefs = g.gRefs → ∃ R, pspec_l13Heap_undo_J3 k h = some (GL13Heap.mk h.gCells h.gTrail R h.gPairs) := by
    intro h hh
    obtain ⟨R, e⟩ := undo_L4 (k := k) k h.gRefs.length h (Nat.le_refl _) (by rw [hh]; omega) (by rw [hh]; omega)
    refine ⟨R, ?_⟩
    unfold pspec_l13Heap_undo_J3
    rw [wr_pred (by rw [hh]; omega), e]; rfl
  have J2 : ∀ h : GL13Heap, h.gRefs = g.gRefs → ∃ g', pspec_l13Heap_undo_J2 k (c : Int) h = some g' ∧ g'.gCells = h.gCells.take c ∧ g'.gTrail = h.gTrail := by
    intro h hh
    unfold pspec_l13Heap_undo_J2
    by_cases hc : (c : Int) < (h.gCells.length : Int)
    · rw [if_pos (decide_eq_true hc), if_pos ⟨by omega, by omega⟩]
      obtain ⟨R, e⟩ := J3 (GL13Heap.mk (h.gCells.take (c : Int).toNat) h.gTrail h.gRefs h.gPairs) hh
      exact ⟨_, e, rfl, rfl⟩
    · rw [if_neg (by simpa using hc)]
      obtain ⟨R, e⟩ := J3 h hh
      have h' : h.gCells.length ≤ c := by omega
      exact ⟨_, e, (List.take_of_length_le h').symm, rfl⟩
  unfold pspec_l13Heap_undo
  rw [wr_pred (by omega), g1]
  simp only [Option.bind_some]
  have hC : Clr g.gTrail (min g.gTrail.length t) g.gTrail.length g.gCells D := by
    by_cases h : t ≤ g.gTrail.length
    · rw [Nat.min_eq_right h]; exact g2
    · rw [Nat.min_eq_left (by omega)]
      have := g2.uniq (D' := g.gCells) (Clr.nil (by omega))
      rw [this]; exact Clr.nil (Nat.le_refl _)
  by_cases ht : (t : Int) < (g.gTrail.length : Int)
  · rw [if_pos (decide_eq_true ht), if_pos ⟨by omega, by omega⟩]
    obtain ⟨g', e, e1, e2⟩ := J2 (GL13Heap.mk D (g.gTrail.take (t : Int).toNat) g.gRefs g.gPairs) rfl
    exact ⟨D, g', e, hC, e1, e2⟩
  · rw [if_neg (by simpa using ht)]
    obtain ⟨g', e, e1, e2⟩ := J2 (GL13Heap.mk D g.gTrail g.gRefs g.gPairs) rfl
    have h' : g.gTrail.length ≤ t := by omega
    exact ⟨D, g', e, hC, e1, by rw [e2]; exact (List.take_of_length_le h').symm⟩

theorem same {k : Nat} {x : GHeap} {a b : Int} (hx : x.ok) (hn : nHeap x ≤ 1048576) (hk : maxLen < k) :
    ∃ p, pspec_UndoTo k x a b = some p ∧ pimpl_UndoTo k x a b = some p ∧ nHeap p ≤ 1048576 := by
  have hM := maxLen_eq
  have hn' : nsum nCell x.gCells + nsum (fun _ => 0) x.gTrail ≤ 1048576 := hn
  rw [nflat] at hn'
  have hlen := nsum_len nCell x.gCells
  obtain ⟨bo, h1, h2, h3⟩ := heapOk hx hk
  obtain ⟨g, hg, gc, gt, gr⟩ := l13Of (k := k) (x := x) (by omega) (by omega) hk
  have hcp : pimpl_copyHeap_d k x = some x := by rw [copy_same]; exact copyHeap (by omega) (by omega) hk
  have nh : ∀ y : GHeap, nHeap y = nsum nCell y.gCells + y.gTrail.length := fun y => by
    have : nHeap y = nsum nCell y.gCells + nsum (fun _ => 0) y.gTrail := rfl
    rw [this, nflat]
  unfold pspec_UndoTo pspec_l13UndoToRaw pimpl_UndoTo
  simp only [h1, h2, hcp, hg, Option.bind_some]
  cases bo with
  | false =>
    simp only [Bool.not_false, if_true]
    rw [heapOf (by rw [gc]; omega) (by rw [gt]; omega)]
    simp only [Option.bind_some]
    rw [l34Heap (by rw [gc]; show nsum nCell x.gCells ≤ _; omega) (by rw [gt]; show x.gTrail.length ≤ _; omega) hk, gc, gt]
    exact ⟨_, rfl, rfl, hn⟩
  | true =>
    obtain ⟨hc, hin⟩ := h3 rfl
    simp only [Bool.not_true, Bool.false_eq_true, if_false, mm]
    -- the program
    obtain ⟨D, i1, i2⟩ := undoI_L1 (k := k) (e := x) (b := b) rfl k 0 x rfl (by unfold upTo; omega) (by omega) (by omega) hin
    rw [show ((0 : Nat) : Int) = 0 from rfl] at i1
    have ub : ∀ (n : Nat) (v : Int), (upTo n v : Int) ≤ (n : Int) := fun n v => by unfold upTo; omega
    -- the reference
    have raw : ∀ c t : Nat, (c : Int) = (if a < 0 then 0 else a) → (t : Int) = (if b < 0 then 0 else b) →
        pspec_l13UndoToRaw_J2 k x (c : Int) (t : Int) = some (GHeap.mk (D.take (upTo D.length a)) (x.gTrail.take (upTo x.gTrail.length b))) := by
      intro c t ec et
      unfold pspec_l13UndoToRaw_J2
      rw [hg]
      simp only [Option.bind_some]
      obtain ⟨D', g', u1, u2, u3, u4⟩ := undoS (k := k) (g := g) gr (by rw [gt]; omega) hk (fun i hi => by
        have := hin i (by rw [← gt]; exact hi)
        simp only [gt, gc]; exact this) c t
      rw [u1]
      simp only [Option.bind_some]
      have hDD : D' = D := by
        rw [gt, gc] at u2
        have : min x.gTrail.length t = upTo x.gTrail.length b + 0 := by
          unfold upTo
          by_cases hb : b < 0
          · rw [if_pos hb] at et; omega
          · rw [if_neg hb] at et; omega
        rw [this] at u2
        exact u2.uniq i2
      have dl : D.length ≤ 1048576 := by rw [i2.1]; omega
      rw [heapOf (by rw [u3, hDD, List.length_take]; omega) (by rw [u4, gt, List.length_take]; omega)]
      simp only [Option.bind_some]
      rw [u3, u4, gt, hDD]
      have k1 : ∀ {α : Type} (l : List α) (c : Nat) (v : Int), (c : Int) = (if v < 0 then 0 else v) → l.take c = l.take (upTo l.length v) := by
        intro α l c v h
        unfold upTo
        by_cases hv : v < 0
        · rw [if_pos hv] at h
          rw [show c = 0 by omega, show min l.length v.toNat = 0 by omega]
        · rw [if_neg hv] at h
          by_cases hl : c ≤ l.length
          · rw [show min l.length v.toNat = c by omega]
          · rw [List.take_of_length_le (by omega), List.take_of_length_le (by omega)]
      rw [k1 D c a ec, k1 x.gTrail t b et]
    have J1 : ∀ c : Nat, (c : Int) = (if a < 0 then 0 else a) → pspec_l13UndoToRaw_J1 k b x (c : Int) = some (GHeap.mk (D.take (upTo D.length a)) (x.gTrail.take (upTo x.gTrail.length b))) := by
      intro c ec
      unfold pspec_l13UndoToRaw_J1
      by_cases hb : b < 0
      · rw [if_pos (decide_eq_true hb)]
        exact raw c 0 ec (by rw [if_pos hb]; rfl)
      · rw [if_neg (by simpa using hb)]
        have := raw c b.toNat ec (by rw [if_neg hb]; omega)
        rw [show ((b.toNat : Nat) : Int) = b by omega] at this
        exact this
    have S : (if decide (a < 0) = true then pspec_l13UndoToRaw_J1 k b x 0 else pspec_l13UndoToRaw_J1 k b x a) = some (GHeap.mk (D.take (upTo D.length a)) (x.gTrail.take (upTo x.gTrail.length b))) := by
      by_cases ha : a < 0
      · rw [if_pos (decide_eq_true ha)]
        exact J1 0 (by rw [if_pos ha]; rfl)
      · rw [if_neg (by simpa using ha)]
        have := J1 a.toNat (by rw [if_neg ha]; omega)
        rw [show ((a.toNat : Nat) : Int) = a by omega] at this
        exact this
    have p1 : 0 ≤ (upTo x.gTrail.length b : Int) ∧ (upTo x.gTrail.length b : Int) ≤ (x.gTrail.length : Int) ∧ (x.gTrail.length : Int) ≤ (x.gTrail.length : Int) := ⟨by omega, ub _ _, Int.le_refl _⟩
    have p2 : 0 ≤ (upTo x.gTrail.length b : Int) ∧ (upTo x.gTrail.length b : Int) ≤ (x.gTrail.length : Int) := ⟨by omega, ub _ _⟩
    have p3 : 0 ≤ (upTo D.length a : Int) ∧ (upTo D.length a : Int) ≤ (D.length : Int) := ⟨by omega, ub _ _⟩
    rw [S, if_pos p1, i1]
    simp only [Option.bind_some, mm]
    rw [if_pos p2, if_pos p3]
    simp only [Int.toNat_natCast]
    have n1 : nsum nCell (D.take (upTo D.length a)) ≤ nsum nCell x.gCells := by have := nsum_take (n := nCell) D (upTo D.length a); rw [i2.2.1] at this; exact this
    have n2 : (x.gTrail.take (upTo x.gTrail.length b)).length ≤ x.gTrail.length := by rw [List.length_take]; omega
    rw [l34Heap (x := GHeap.mk (D.take (upTo D.length a)) (x.gTrail.take (upTo x.gTrail.length b))) (by show nsum nCell (D.take _) ≤ _; omega) (by show (x.gTrail.take _).length ≤ _; omega) hk]
    exact ⟨_, rfl, rfl, by rw [nh]; show nsum nCell (D.take _) + (x.gTrail.take _).length ≤ _; omega⟩

theorem d_same : @pimpl_UndoTo_d = @pimpl_UndoTo := by kernel_rfl

theorem law (x : GHeap) (a b : Int) (hx : x.ok) (ha : okI .i64 a) (hb : okI .i64 b) : ∃ k, plaws_FnExactUndoTo k x a b = some true := by
  obtain ⟨k, hk⟩ : ∃ k, maxLen + 4 * nHeap x + 1099511627776 < k := ⟨_, Nat.lt_succ_self _⟩
  refine ⟨k, ?_⟩
  have hm : maxLen = 9223372036854775807 := maxLen_eq
  have hH : Huge = 1152921504606846976 := rfl
  have hw : maxLen + 2 * nHeap x + 2 < k := by omega
  unfold plaws_FnExactUndoTo
  obtain ⟨r, e1, h2, h3⟩ := szHeap (k := k) hw hx 1048576 (by omega) (by unfold Small; omega)
  rw [e1]
  simp only [Option.bind_some]
  by_cases hr : r < 0
  · rw [if_pos (by simpa using hr)]
  rw [if_neg (by simpa using hr)]
  have hn : nHeap x ≤ 1048576 := by omega
  have t0 := toHeap (k := k) hw hn
  have t1 : plaws_toHeap_d k x = some x := by rw [plaws_toHeap_dd]; exact t0
  obtain ⟨p, e2, e3, np⟩ := same (k := k) (a := a) (b := b) hx hn (by omega)
  have e4 : pimpl_UndoTo_d k x a b = some p := by rw [d_same]; exact e3
  obtain ⟨u, c, a1, a2, a3, a4, a5⟩ := markHeap (k := k) (x := x) hw 1 (by omega) (by omega)
  obtain ⟨z, d, b1, b2, b3, b4, b5⟩ := markHeap (k := k) (x := p) (by omega) 1 (by omega) (by omega)
  have q1 := eqHeap (k := k) (x := p) (by omega) (by omega)
  have q2 := eqHeap (k := k) (x := x) hw (by omega)
  have hc : ∀ c : Int, 1 ≤ c → (decide (c < 0)) = false := fun c h => by simpa using (by omega : 0 ≤ c)
  have eta : ∀ x : GHeap, GHeap.mk x.gCells x.gTrail = x := fun x => rfl
  simp only [t0, t1, e2, e3, e4, eta, q1, q2, a1, b1, b2, b3, hc c (by omega), hc d b4, Option.bind_some, Bool.not_true, Bool.false_eq_true, if_false, bne_self_eq_false, beq_self_eq_true]
end FnExactUndoTo
end Go.Proofs.Ytbfkmgenokhkgaa

/- The law, plainly. -/
import Derived.Test.YtgfpmdaihkdhkaaFn
set_option linter.unusedVariables false
set_option linter.unusedSimpArgs false
namespace Go.Proofs.Ytgfpmdaihkdhkaa
open Go.RowKit Go.Bv
namespace FnExactTermAt
/-- Room for the marks. -/
theorem markText_loop (k : Nat) : ∀ (j m : Nat) (b : Int) (e : ByteArray), j < m → 0 ≤ b → b < 2 ^ j → j ≤ 61 → e.size + j ≤ 1000 →
    ∃ s, plaws_markText_L1 k m b e = some (.done s) ∧ s.size ≤ 1000
  | j, 0, b, e, h1, _, _, _, _ => by omega
  | 0, m + 1, b, e, h1, h2, h3, h4, h5 => by
    unfold plaws_markText_L1
    rw [if_neg (by simp at h3 ⊢; omega)]
    exact ⟨e, rfl, by omega⟩
  | j + 1, m + 1, b, e, h1, h2, h3, h4, h5 => by
    unfold plaws_markText_L1
    by_cases hb : b > 0
    · have hp : (2 : Int) ^ (j + 1) = 2 * 2 ^ j := by rw [Int.pow_succ]; omega
      have hj : (2 : Int) ^ j ≤ 2 ^ 61 := by
        have : (2 : Nat) ^ j ≤ 2 ^ 61 := Nat.pow_le_pow_right (by omega) (by omega)
        exact_mod_cast this
      have hq : Int.tdiv b 10 = b / 10 := Int.tdiv_eq_ediv_of_nonneg h2
      have hs : (strOfNums [wr.u8 (wr.i64 (48 + (Int.tmod b 10)))]).size = 1 := rfl
      rw [if_pos (by simpa using hb), if_pos (by omega), if_pos (by unfold sumOk; rw [hs]; omega), if_pos (by omega), hq, wr_i64 (by omega) (by omega)]
      exact markText_loop k j m (b / 10) _ (by omega) (by omega) (by omega) (by omega) (by rw [ByteArray.size_append, hs]; omega)
    · rw [if_neg (by simpa using hb)]; exact ⟨e, rfl, by omega⟩

theorem markText {k : Nat} (hk : maxLen < k) (b : Int) (h0 : 0 ≤ b) (h1 : b ≤ Huge) : ∃ s, plaws_markText k b = some s := by
  unfold plaws_markText
  by_cases hb : b ≤ 0
  · rw [if_pos (by simpa using hb)]; exact ⟨_, rfl⟩
  · rw [if_neg (by simpa using hb)]
    rw [maxLen_eq] at hk
    have hH : Huge = 1152921504606846976 := rfl
    have hp : (2 : Int) ^ 61 = 2305843009213693952 := by decide
    obtain ⟨s, h2, h3⟩ := markText_loop k 61 k b (bs []) (by omega) h0 (by rw [hp]; omega) (by omega) (by have : (bs []).size = 0 := rfl; omega)
    rw [h2]
    simp only [Option.bind_some]
    rw [if_pos (by unfold sumOk; have : (bs [109]).size = 1 := rfl; omega)]
    exact ⟨_, rfl⟩
mutual
/-- How many terms stand in a term. -/
def nT : GTerm → Nat
  | .mk _ _ _ l => nTs l
def nTs : List GTerm → Nat
  | [] => 0
  | x :: l => 1 + nT x + nTs l
end
theorem nTs_eq : ∀ l : List GTerm, nTs l = nsum nT l
  | [] => by rw [nTs]; rfl
  | x :: l => by rw [nTs, nsum, nTs_eq l]
theorem nT_kids (x : GTerm) : nT x = nsum nT x.gKids := by
  cases x with
  | mk a b c l => rw [nT, nTs_eq]; rfl

theorem ok_kids {x : GTerm} (h : x.ok) : okL GTerm.ok x.gKids := by cases h with | mk a b c l h1 h2 h3 h4 h5 => exact ⟨h4, h5⟩
theorem ok_name {x : GTerm} (h : x.ok) : okFs x.gName := by cases h with | mk a b c l h1 h2 h3 h4 h5 => exact h2
theorem ok_kind {x : GTerm} (h : x.ok) : okI .i64 x.gKind := by cases h with | mk a b c l h1 h2 h3 h4 h5 => exact h1
theorem ok_num {x : GTerm} (h : x.ok) : okI .i64 x.gNum := by cases h with | mk a b c l h1 h2 h3 h4 h5 => exact h3

theorem mk_gKind (a : Int) (b : ByteArray) (c : Int) (l : List GTerm) : (GTerm.mk a b c l).gKind = a := rfl
theorem mk_gName (a : Int) (b : ByteArray) (c : Int) (l : List GTerm) : (GTerm.mk a b c l).gName = b := rfl
theorem mk_gNum (a : Int) (b : ByteArray) (c : Int) (l : List GTerm) : (GTerm.mk a b c l).gNum = c := rfl
theorem mk_gKids (a : Int) (b : ByteArray) (c : Int) (l : List GTerm) : (GTerm.mk a b c l).gKids = l := rfl
theorem eqBoth : ∀ k : Nat, (∀ l, maxLen + 2 * nsum nT l + 1 < k → nsum nT l ≤ Huge → plaws_eqTermS k l l = some true) ∧ (∀ x, maxLen + 2 * nT x + 2 < k → nT x ≤ Huge → plaws_eqTerm k x x = some true)
  | 0 => ⟨fun l h => by omega, fun x h => by omega⟩
  | k + 1 => by
    obtain ⟨ih1, ih2⟩ := eqBoth k
    refine ⟨?_, ?_⟩
    · intro l hw hl
      have := nsum_len nT l
      exact eq2 (f := plaws_eqTerm k) (L := plaws_eqTermS_L1 k (plaws_eqTerm k) (plaws_eqTermS k) l l) (by omega) (fun x hx => by have := nsum_mem (n := nT) hx; exact ih2 x (by omega) (by omega)) (fun m i => rfl) (by omega)
    · intro x hw hx
      have hk := nT_kids x
      unfold plaws_eqTerm
      rw [ih1 x.gKids (by omega) (by omega)]
      simp [sEq_refl]
theorem eqTermS {k : Nat} {l : List GTerm} (hw : maxLen + 2 * nsum nT l + 2 < k) (hl : nsum nT l ≤ Huge) : plaws_eqTermS k l l = some true := (eqBoth k).1 l (by omega) hl
theorem eqTerm {k : Nat} {x : GTerm} (hw : maxLen + 2 * nT x + 2 < k) (hl : nT x ≤ Huge) : plaws_eqTerm k x x = some true := (eqBoth k).2 x hw hl
theorem markTermS1 : ∀ (k : Nat) (l : List GTerm), maxLen + 2 * nsum nT l + 1 < k → ∀ b : Int, 1 ≤ b → b + 16 * (nsum nT l : Int) ≤ Huge →
    ∃ l' c, plaws_markTermS k l b = some (l', c) ∧ plaws_heldTermS k l' b = some c ∧ b ≤ c ∧ c ≤ b + 16 * (nsum nT l : Int)
  | 0, l, h => by omega
  | k + 1, l, hw => by
    intro b h1 h2
    have hH : Huge = 1152921504606846976 := rfl
    have key := mark2 (n := nT) (ok := fun x => maxLen + 2 * nT x + 1 < k)
      (good := fun b x c => 1 ≤ b ∧ b ≤ c ∧ c ≤ Huge ∧ x.gKind = b ∧ plaws_markText k (b + 1) = some x.gName ∧ x.gNum = b + 2 ∧ b + 3 ≤ Huge ∧ plaws_heldTermS k x.gKids (b + 3) = some c)
      (L := plaws_markTermS_L1 k (plaws_markTermS k)) (H := plaws_heldTermS_L1 k (plaws_heldTermS k))
      (fun m b l => by unfold plaws_markTermS_L1; rw [if_neg (by simp)])
      (fun m b j l x hx hj hat h1 h2 => by
        have hk := nT_kids x
        obtain ⟨s, hs⟩ := markText (k := k) (by omega) (b + 1) (by omega) (by omega)
        obtain ⟨l', c, e1, e2, e3, e4⟩ := markTermS1 k x.gKids (by omega) (b + 3) (by omega) (by omega)
        refine ⟨.mk b s (b + 2) l', c, ⟨h1, by omega, by omega, rfl, hs, rfl, by omega, e2⟩, by omega, by omega, fun hlt => ?_⟩
        have w1 : wr.i64 (b + 1) = b + 1 := by have := wr_i64 (x := b + 1) (by omega) (by omega); omega
        have w2 : wr.i64 (b + 1 + 1) = b + 2 := by have := wr_i64 (x := b + 1 + 1) (by omega) (by omega); omega
        have w3 : wr.i64 (b + 2 + 1) = b + 3 := by have := wr_i64 (x := b + 2 + 1) (by omega) (by omega); omega
        have hset : ∀ (l : List GTerm) (y z : GTerm), at' l (j : Int) = some y → at' (l.set ((j : Int)).toNat z) (j : Int) = some z := fun l y z h => at_is h
        rw [plaws_markTermS_L1, if_pos (by simpa using hlt), hat]
        simp only [Option.bind_some, w1, w2, w3, hs]
        rw [hset _ _ _ hat]
        simp only [Option.bind_some]
        rw [hset _ _ _ (hset _ _ _ hat)]
        simp only [Option.bind_some]
        rw [hset _ _ _ (hset _ _ _ (hset _ _ _ hat))]
        simp only [Option.bind_some, mk_gKids, mk_gKind, mk_gName, mk_gNum]
        simp only [e1, Option.bind_some, cast_succ hj, List.set_set, Int.toNat_natCast])
      (fun l m b => by unfold plaws_heldTermS_L1; rw [if_neg (by simp)])
      (fun l m b c j x hj hat hg hlt => by
        obtain ⟨h1, h2, h3, h4, h5, h6, h7, h8⟩ := hg
        have w1 : wr.i64 (b + 1) = b + 1 := by have := wr_i64 (x := b + 1) (by omega) (by omega); omega
        have w2 : wr.i64 (b + 1 + 1) = b + 2 := by have := wr_i64 (x := b + 1 + 1) (by omega) (by omega); omega
        have w3 : wr.i64 (b + 2 + 1) = b + 3 := by have := wr_i64 (x := b + 2 + 1) (by omega) (by omega); omega
        rw [plaws_heldTermS_L1, if_pos (by simpa using hlt), hat]
        simp only [Option.bind_some, w1, w2, w3]
        rw [if_neg (by simp [h4]), h5]
        simp only [Option.bind_some]
        rw [if_neg (by simp [sEq_refl]), if_neg (by simp [h6]), h8]
        simp only [Option.bind_some]
        rw [if_neg (by simp; omega), cast_succ hj])
      (k := k) (by omega) l (fun x hx => by have := nsum_mem (n := nT) hx; omega) b h1 h2
    obtain ⟨l', c, e1, e2, e3, e4⟩ := key
    refine ⟨l', c, ?_, ?_, e3, e4⟩
    · unfold plaws_markTermS; rw [e1]; rfl
    · unfold plaws_heldTermS; rw [e2]; rfl
theorem markTermS {k : Nat} {l : List GTerm} (hw : maxLen + 2 * nsum nT l + 2 < k) (b : Int) (h1 : 1 ≤ b) (h2 : b + 16 * (nsum nT l : Int) ≤ Huge) :
    ∃ l' c, plaws_markTermS k l b = some (l', c) ∧ plaws_heldTermS k l' b = some c ∧ b ≤ c ∧ c ≤ b + 16 * (nsum nT l : Int) := markTermS1 k l (by omega) b h1 h2
theorem markTerm {k : Nat} {x : GTerm} (hw : maxLen + 2 * nT x + 2 < k) (b : Int) (h1 : 1 ≤ b) (h2 : b + 16 * (nT x : Int) ≤ Huge) :
    ∃ y c, plaws_markTerm k x b = some (y, c) ∧ plaws_heldTerm k (GTerm.mk x.gKind x.gName x.gNum y.gKids) b = some c ∧ plaws_heldTerm k y b = some c ∧ b ≤ c ∧ c ≤ b + 16 * (nT x : Int) := by
  have hk := nT_kids x
  obtain ⟨l', c, e1, e2, e3, e4⟩ := markTermS (k := k) (l := x.gKids) (by omega) b h1 (by omega)
  have hh : plaws_heldTerm k (.mk x.gKind x.gName x.gNum l') b = some c := by
    unfold plaws_heldTerm
    rw [show (GTerm.mk x.gKind x.gName x.gNum l').gKids = l' from rfl, e2]
    simp only [Option.bind_some]
    rw [if_neg (by simp; omega)]
  refine ⟨.mk x.gKind x.gName x.gNum l', c, ?_, hh, hh, e3, by omega⟩
  unfold plaws_markTerm; rw [e1]; rfl
theorem szIntS {k : Nat} {l : List Int} (hw : maxLen + 2 * (nsum (fun _ => 0) l) + 2 < k) (hl : okL (okI .i64) l) (b : Int) (h0 : 0 ≤ b) (h1 : b ≤ Small) : ∃ r, plaws_szIntS k l b = some r ∧ -1 ≤ r ∧ (0 ≤ r → r + (nsum (fun _ => 0) l : Int) ≤ b) := by
  unfold plaws_szIntS; exact sz2_flat hl.1 b h0 h1

theorem toIntS {k : Nat} {l : List Int} (hw : maxLen + 2 * (nsum (fun _ => 0) l) + 2 < k) (hl : nsum (fun _ => 0) l ≤ 1048576) : plaws_toIntS k l = some l := by
  have := nsum_len (fun _ => 0) l
  have h := to2_flat (L := plaws_toIntS_L1 k l) (by omega) (fun m i o => rfl) (k := k) (by omega) 0
  unfold plaws_toIntS
  rw [if_pos h.1, h.2]; rfl

theorem plaws_toIntS_dd : @plaws_toIntS_d = @plaws_toIntS := by kernel_rfl

theorem eqIntS {k : Nat} {l : List Int} (hw : maxLen + 2 * (nsum (fun _ => 0) l) + 2 < k) (hl : nsum (fun _ => 0) l ≤ Huge) : plaws_eqIntS k l l = some true := by
  have := nsum_len (fun _ => 0) l
  exact eq2_flat (ne := fun x y => x != y) (L := plaws_eqIntS_L1 k l l) (by omega) (fun x => by simp [sEq_refl]) (fun m i => rfl) (k := k) (by omega)

theorem markIntS {k : Nat} {l : List Int} (hw : maxLen + 2 * (nsum (fun _ => 0) l) + 2 < k) (b : Int) (h1 : 1 ≤ b) (h2 : b + 16 * (nsum (fun _ => 0) l : Int) ≤ Huge) :
    ∃ l' c, plaws_markIntS k l b = some (l', c) ∧ b ≤ c ∧ c ≤ b + 16 * (nsum (fun _ => 0) l : Int) := by
  have hm : maxLen = 9223372036854775807 := maxLen_eq
  have hH : Huge = 1152921504606846976 := rfl
  have h3 : (if (3 : Int) ≠ 0 then True else False) = True := by decide
  have hlen := nsum_len (fun _ => 0) l
  have key := mark1 (n := (fun _ => 0)) (ok := fun x => maxLen + 2 * 0 + 2 < k)

    (L := plaws_markIntS_L1 k)
    (fun m b l => by unfold plaws_markIntS_L1; rw [if_neg (by simp)])
    (fun m b j l x hx hj hat h1 h2 => by
      skip
      refine ⟨b, (b + 1), (by omega), (by omega), fun hlt => ?_⟩
      have w0 : wr.i64 (b + 1) = b + 1 := by have := wr_i64 (x := b + 1) (by omega) (by omega); omega
      have hat' : (at' l (j : Int)).isSome = true := by rw [hat]; rfl
      rw [plaws_markIntS_L1, if_pos (by simpa using hlt)]
      simp only [hat, hat', Option.isSome_some, Option.bind_some, w0, at_set, at_set_some, cast_succ hj, List.set_set, Int.toNat_natCast, if3])
    (k := k) (by omega) l (fun x hx => by have := nsum_mem (n := (fun _ => 0)) hx; omega) b h1 h2
  obtain ⟨l', c, e1, e3, e4⟩ := key
  refine ⟨l', c, ?_, e3, e4⟩
  unfold plaws_markIntS; rw [e1]; rfl

def nCell (x : GCell) : Nat := nsum (fun _ => 0) x.gKids

theorem szCell {k : Nat} {x : GCell} (hw : maxLen + 2 * (nCell x) + 2 < k) (hx : x.ok) (b : Int) (h0 : 0 ≤ b) (h1 : b ≤ Small) : ∃ r, plaws_szCell k x b = some r ∧ -1 ≤ r ∧ (0 ≤ r → r + (nCell x : Int) ≤ b) := by
  unfold nCell at *
  unfold plaws_szCell
  have hS : Small = 1048576 := rfl
  have hs1 : x.gName.size ≤ 9223372036854775807 := by have := hx.2.1; unfold okFs at this; rw [maxLen_eq] at this; exact this
  have hr1 : wr.i64 (b - (x.gName.size : Int)) = (b - (x.gName.size : Int)) := wr_i64 (by omega) (by omega)
  rw [hr1]
  by_cases c1 : (b - (x.gName.size : Int)) < 0
  · rw [if_pos (by simpa using c1)]; exact ⟨_, rfl, by omega, by omega⟩
  rw [if_neg (by simpa using c1)]
  obtain ⟨r2, e2, l2, u2⟩ := szIntS (k := k) (l := x.gKids) (by omega) hx.2.2.2.2 (b - (x.gName.size : Int)) (by omega) (by omega)
  rw [e2]
  simp only [Option.bind_some]
  by_cases c2 : r2 < 0
  · rw [if_pos (by simpa using c2)]; exact ⟨_, rfl, by omega, by omega⟩
  rw [if_neg (by simpa using c2)]
  exact ⟨_, rfl, by omega, fun h => by omega⟩

theorem toCell {k : Nat} {x : GCell} (hw : maxLen + 2 * (nCell x) + 2 < k) (hx : nCell x ≤ 1048576) : plaws_toCell k x = some x := by
  unfold nCell at *
  unfold plaws_toCell
  rw [toIntS (k := k) (l := x.gKids) (by omega) (by omega)]
  simp only [Option.bind_some]

theorem plaws_toCell_dd : @plaws_toCell_d = @plaws_toCell := by kernel_rfl

theorem eqCell {k : Nat} {x : GCell} (hw : maxLen + 2 * (nCell x) + 2 < k) (hx : nCell x ≤ Huge) : plaws_eqCell k x x = some true := by
  unfold nCell at *
  unfold plaws_eqCell
  rw [eqIntS (k := k) (l := x.gKids) (by omega) (by omega)]
  simp [sEq_refl]

theorem szCellS {k : Nat} {l : List GCell} (hw : maxLen + 2 * (nsum nCell l) + 2 < k) (hl : okL (GCell.ok) l) (b : Int) (h0 : 0 ≤ b) (h1 : b ≤ Small) : ∃ r, plaws_szCellS k l b = some r ∧ -1 ≤ r ∧ (0 ≤ r → r + (nsum nCell l : Int) ≤ b) := by
  exact sz2 (f := plaws_szCell k) (L := plaws_szCellS_L1 k l) hl.1 (fun x hx b h0 h1 => by have := nsum_mem (n := nCell) hx; exact szCell (by omega) (hl.2 x hx) b h0 h1) (fun m b i => rfl) (by omega) b h0 h1

theorem toCellS {k : Nat} {l : List GCell} (hw : maxLen + 2 * (nsum nCell l) + 2 < k) (hl : nsum nCell l ≤ 1048576) : plaws_toCellS k l = some l := by
  have := nsum_len nCell l
  have h := to2 (f := plaws_toCell k) (L := plaws_toCellS_L1 k l) (by omega) (fun x hx => by have := nsum_mem (n := nCell) hx; exact toCell (by omega) (by omega)) (fun m i o => rfl) (k := k) (by omega) (GCell.mk 0 (bs []) 0 0 [])
  unfold plaws_toCellS
  rw [if_pos h.1, h.2]; rfl

theorem plaws_toCellS_dd : @plaws_toCellS_d = @plaws_toCellS := by kernel_rfl

theorem eqCellS {k : Nat} {l : List GCell} (hw : maxLen + 2 * (nsum nCell l) + 2 < k) (hl : nsum nCell l ≤ Huge) : plaws_eqCellS k l l = some true := by
  have := nsum_len nCell l
  exact eq2 (f := plaws_eqCell k) (L := plaws_eqCellS_L1 k l l) (by omega) (fun x hx => by have := nsum_mem (n := nCell) hx; exact eqCell (by omega) (by omega)) (fun m i => rfl) (k := k) (by omega)

theorem markCellS {k : Nat} {l : List GCell} (hw : maxLen + 2 * (nsum nCell l) + 2 < k) (b : Int) (h1 : 1 ≤ b) (h2 : b + 16 * (nsum nCell l : Int) ≤ Huge) :
    ∃ l' c, plaws_markCellS k l b = some (l', c) ∧ b ≤ c ∧ c ≤ b + 16 * (nsum nCell l : Int) := by
  have hm : maxLen = 9223372036854775807 := maxLen_eq
  have hH : Huge = 1152921504606846976 := rfl
  have h3 : (if (3 : Int) ≠ 0 then True else False) = True := by decide
  have hlen := nsum_len nCell l
  have key := mark1 (n := nCell) (ok := fun x => maxLen + 2 * (nCell x) + 2 < k)

    (L := plaws_markCellS_L1 k)
    (fun m b l => by unfold plaws_markCellS_L1; rw [if_neg (by simp)])
    (fun m b j l x hx hj hat h1 h2 => by
      try unfold nCell at *
      obtain ⟨s1, t1⟩ := markText (k := k) (by omega) (b + 1) (by omega) (by omega)
      obtain ⟨y0, c0, e0, l0, u0⟩ := markIntS (k := k) (l := x.gKids) (by omega) (b + 4) (by omega) (by omega)
      refine ⟨(GCell.mk b s1 (b + 2) (b + 3) y0), c0, (by omega), (by omega), fun hlt => ?_⟩
      have w0 : wr.i64 (b + 1) = b + 1 := by have := wr_i64 (x := b + 1) (by omega) (by omega); omega
      have w1 : wr.i64 (b + 1 + 1) = b + 2 := by have := wr_i64 (x := b + 1 + 1) (by omega) (by omega); omega
      have w2 : wr.i64 (b + 2 + 1) = b + 3 := by have := wr_i64 (x := b + 2 + 1) (by omega) (by omega); omega
      have w3 : wr.i64 (b + 3 + 1) = b + 4 := by have := wr_i64 (x := b + 3 + 1) (by omega) (by omega); omega
      have hat' : (at' l (j : Int)).isSome = true := by rw [hat]; rfl
      rw [plaws_markCellS_L1, if_pos (by simpa using hlt)]
      simp only [hat, hat', Option.isSome_some, Option.bind_some, w0, w1, w2, w3, t1, e0, at_set, at_set_some, cast_succ hj, List.set_set, Int.toNat_natCast, if3])
    (k := k) (by omega) l (fun x hx => by have := nsum_mem (n := nCell) hx; omega) b h1 h2
  obtain ⟨l', c, e1, e3, e4⟩ := key
  refine ⟨l', c, ?_, e3, e4⟩
  unfold plaws_markCellS; rw [e1]; rfl

def nHeap (x : GHeap) : Nat := nsum nCell x.gCells + nsum (fun _ => 0) x.gTrail

theorem szHeap {k : Nat} {x : GHeap} (hw : maxLen + 2 * (nHeap x) + 2 < k) (hx : x.ok) (b : Int) (h0 : 0 ≤ b) (h1 : b ≤ Small) : ∃ r, plaws_szHeap k x b = some r ∧ -1 ≤ r ∧ (0 ≤ r → r + (nHeap x : Int) ≤ b) := by
  unfold nHeap at *
  unfold plaws_szHeap
  have hS : Small = 1048576 := rfl
  obtain ⟨r1, e1, l1, u1⟩ := szCellS (k := k) (l := x.gCells) (by omega) hx.1 b h0 (by omega)
  rw [e1]
  simp only [Option.bind_some]
  by_cases c1 : r1 < 0
  · rw [if_pos (by simpa using c1)]; exact ⟨_, rfl, by omega, by omega⟩
  rw [if_neg (by simpa using c1)]
  obtain ⟨r2, e2, l2, u2⟩ := szIntS (k := k) (l := x.gTrail) (by omega) hx.2 r1 (by omega) (by omega)
  rw [e2]
  simp only [Option.bind_some]
  by_cases c2 : r2 < 0
  · rw [if_pos (by simpa using c2)]; exact ⟨_, rfl, by omega, by omega⟩
  rw [if_neg (by simpa using c2)]
  exact ⟨_, rfl, by omega, fun h => by omega⟩

theorem toHeap {k : Nat} {x : GHeap} (hw : maxLen + 2 * (nHeap x) + 2 < k) (hx : nHeap x ≤ 1048576) : plaws_toHeap k x = some x := by
  unfold nHeap at *
  unfold plaws_toHeap
  rw [toCellS (k := k) (l := x.gCells) (by omega) (by omega)]
  simp only [Option.bind_some]
  rw [toIntS (k := k) (l := x.gTrail) (by omega) (by omega)]
  simp only [Option.bind_some]

theorem plaws_toHeap_dd : @plaws_toHeap_d = @plaws_toHeap := by kernel_rfl

theorem eqHeap {k : Nat} {x : GHeap} (hw : maxLen + 2 * (nHeap x) + 2 < k) (hx : nHeap x ≤ Huge) : plaws_eqHeap k x x = some true := by
  unfold nHeap at *
  unfold plaws_eqHeap
  rw [eqCellS (k := k) (l := x.gCells) (by omega) (by omega)]
  rw [eqIntS (k := k) (l := x.gTrail) (by omega) (by omega)]
  simp [sEq_refl]

theorem markHeap {k : Nat} {x : GHeap} (hw : maxLen + 2 * (nHeap x) + 2 < k) (b : Int) (h1 : 1 ≤ b) (h2 : b + 16 * (nHeap x : Int) ≤ Huge) :
    ∃ y c, plaws_markHeap k x b = some (y, c) ∧ b ≤ c ∧ c ≤ b + 16 * (nHeap x : Int) := by
  unfold nHeap at *
  obtain ⟨y0, c0, e0, l0, u0⟩ := markCellS (k := k) (l := x.gCells) (by omega) b (by omega) (by omega)
  obtain ⟨y1, c1, e1, l1, u1⟩ := markIntS (k := k) (l := x.gTrail) (by omega) c0 (by omega) (by omega)
  have hc : ∀ c : Int, 1 ≤ c → (decide (c < 0)) = false := fun c h => by simpa using (by omega : 0 ≤ c)
  refine ⟨GHeap.mk y0 y1, c1, ?_, (by omega), (by omega)⟩
  · unfold plaws_markHeap; simp only [e0, e1, Option.bind_some, mk_gKids]
/-- Is it within these bounds? -/
def inR (x a b : Int) : Bool := decide (a ≤ x ∧ x ≤ b)
theorem inR_t {x a b : Int} (h : a ≤ x ∧ x ≤ b) : inR x a b = true := decide_eq_true h
theorem inR_f {x a b : Int} (h : ¬ (a ≤ x ∧ x ≤ b)) : inR x a b = false := decide_eq_false h

theorem l01In (k : Nat) (x a b : Int) : pspec_l01In k x a b = some (inR x a b) := by
  unfold pspec_l01In inR
  by_cases h : a ≤ x
  · rw [if_pos (by simpa using h)]; simp [h]
  · rw [if_neg (by simpa using h)]; simp [h]

theorem within (k : Nat) (x a b : Int) : pimpl_within k x a b = some (inR x a b) := by
  unfold pimpl_within inR
  by_cases h : a ≤ x
  · rw [if_pos (by simpa using h)]; simp [h]
  · rw [if_neg (by simpa using h)]; simp [h]
theorem l01InD (k : Nat) (x a b : Int) : pspec_l01In k x a b = some (decide (a ≤ x ∧ x ≤ b)) := l01In k x a b
theorem withinD (k : Nat) (x a b : Int) : pimpl_within k x a b = some (decide (a ≤ x ∧ x ≤ b)) := within k x a b
theorem bt_le (s : ByteArray) (i : Int) : 0 ≤ bt s i ∧ bt s i ≤ 255 := by
  unfold bt
  have : ((s[i.toNat]?).getD 0).toNat < 256 := ((s[i.toNat]?).getD 0).toNat_lt
  omega
/-- A byte that a name may have. -/
def gb (s : ByteArray) (i : Nat) : Prop := 33 ≤ bt s (i : Int) ∧ bt s (i : Int) ≤ 126 ∧ bt s (i : Int) ≠ 39 ∧ bt s (i : Int) ≠ 34
instance (s : ByteArray) (i : Nat) : Decidable (gb s i) := by unfold gb; infer_instance
/-- A name. -/
def nmOk (s : ByteArray) : Prop := (∀ i, i < s.size → gb s i) ∧ 1 ≤ s.size ∧ s.size ≤ 20
instance (s : ByteArray) : Decidable (nmOk s) := by unfold nmOk; infer_instance

theorem l03Name_L1 (k : Nat) (s : ByteArray) (hs : s.size ≤ maxLen) : ∀ (m n : Nat), n ≤ s.size → s.size - n < m →
    ∃ o, pspec_l03Name_L1 k s m (n : Int) = some o ∧ (match o with | .ret r => r = false ∧ ∃ i, i < s.size ∧ ¬ gb s i | .done _ => ∀ i, n ≤ i → i < s.size → gb s i)
  | 0, n, h1, h2 => by omega
  | m + 1, n, h1, h2 => by
    unfold pspec_l03Name_L1
    by_cases hlt : n < s.size
    · have hg : 0 ≤ (n : Int) ∧ (n : Int).toNat < s.size := ⟨by omega, by simpa using hlt⟩
      have bad : ∀ b : Prop, (gb s n → ¬ b) → b → ∃ o, (some (Out.ret false) : Option (Out Bool Unit)) = some o ∧ (match o with | .ret r => r = false ∧ ∃ i, i < s.size ∧ ¬ gb s i | .done _ => ∀ i, n ≤ i → i < s.size → gb s i) :=
        fun b h hb => ⟨_, rfl, rfl, n, hlt, fun h' => h h' hb⟩
      rw [if_pos (by simpa using hlt), if_pos hg]
      by_cases c1 : bt s (n : Int) < 33
      · rw [if_pos (by simpa using c1)]; exact bad _ (fun h => by have := h.1; omega) c1
      rw [if_neg (by simpa using c1), if_pos hg]
      by_cases c2 : bt s (n : Int) > 126
      · rw [if_pos (by simpa using c2)]; exact bad _ (fun h => by have := h.2.1; omega) c2
      rw [if_neg (by simpa using c2), if_pos hg]
      by_cases c3 : bt s (n : Int) = 39
      · rw [if_pos (by simpa using c3)]; exact bad _ (fun h => h.2.2.1) c3
      rw [if_neg (by simpa using c3), if_pos hg]
      by_cases c4 : bt s (n : Int) = 34
      · rw [if_pos (by simpa using c4)]; exact bad _ (fun h => h.2.2.2) c4
      rw [if_neg (by simpa using c4), wr_succ hlt hs]
      obtain ⟨o, h3, h4⟩ := l03Name_L1 k s hs m (n + 1) (by omega) (by omega)
      refine ⟨o, h3, ?_⟩
      cases o with
      | ret r => exact h4
      | done u =>
        intro i hi1 hi2
        by_cases e : i = n
        · subst e; exact ⟨by omega, by omega, c3, c4⟩
        · exact h4 i (by omega) hi2
    · rw [if_neg (by simpa using hlt)]
      exact ⟨_, rfl, fun i h3 h4 => by omega⟩

theorem nameOk_L1 (k : Nat) (s : ByteArray) (hs : s.size ≤ maxLen) : ∀ (m n : Nat), n ≤ s.size → s.size - n < m →
    ∃ o, pimpl_nameOk_L1 k s m (n : Int) = some o ∧ (match o with | .ret r => r = false ∧ ∃ i, i < s.size ∧ ¬ gb s i | .done _ => ∀ i, n ≤ i → i < s.size → gb s i)
  | 0, n, h1, h2 => by omega
  | m + 1, n, h1, h2 => by
    unfold pimpl_nameOk_L1
    by_cases hlt : n < s.size
    · have hg : 0 ≤ (n : Int) ∧ (n : Int).toNat < s.size := ⟨by omega, by simpa using hlt⟩
      have hb := bt_le s (n : Int)
      have bad : ∀ b : Prop, (gb s n → ¬ b) → b → ∃ o, (some (Out.ret false) : Option (Out Bool Unit)) = some o ∧ (match o with | .ret r => r = false ∧ ∃ i, i < s.size ∧ ¬ gb s i | .done _ => ∀ i, n ≤ i → i < s.size → gb s i) :=
        fun b h hb => ⟨_, rfl, rfl, n, hlt, fun h' => h h' hb⟩
      rw [if_pos (by simpa using hlt), if_pos hg, within, wr_i64 (by omega) (by omega)]
      simp only [Option.bind_some]
      by_cases c1 : 33 ≤ bt s (n : Int) ∧ bt s (n : Int) ≤ 126
      · rw [inR_t c1, if_neg (by simp), if_pos hg]
        by_cases c3 : bt s (n : Int) = 39
        · rw [if_pos (by simpa using c3)]; exact bad _ (fun h => h.2.2.1) c3
        rw [if_neg (by simpa using c3), if_pos hg]
        by_cases c4 : bt s (n : Int) = 34
        · rw [if_pos (by simpa using c4)]; exact bad _ (fun h => h.2.2.2) c4
        rw [if_neg (by simpa using c4), wr_succ hlt hs]
        obtain ⟨o, h3, h4⟩ := nameOk_L1 k s hs m (n + 1) (by omega) (by omega)
        refine ⟨o, h3, ?_⟩
        cases o with
        | ret r => exact h4
        | done u =>
          intro i hi1 hi2
          by_cases e : i = n
          · subst e; exact ⟨by omega, by omega, c3, c4⟩
          · exact h4 i (by omega) hi2
      · rw [inR_f c1, if_pos (by simp)]
        exact bad _ (fun h => by have := h.1; have := h.2.1; omega) c1
    · rw [if_neg (by simpa using hlt)]
      exact ⟨_, rfl, fun i h3 h4 => by omega⟩

theorem nm_of {s : ByteArray} (h : ∀ i, 0 ≤ i → i < s.size → gb s i) : inR (s.size : Int) 1 20 = decide (nmOk s) := by
  unfold inR
  rw [decide_eq_decide]
  unfold nmOk
  constructor
  · intro h1; exact ⟨fun i hi => h i (by omega) hi, by omega, by omega⟩
  · intro h1; obtain ⟨_, h5, h6⟩ := h1; omega

theorem l03Name {k : Nat} {s : ByteArray} (hs : s.size ≤ maxLen) (hk : maxLen < k) : pspec_l03Name k s = some (decide (nmOk s)) := by
  unfold pspec_l03Name
  obtain ⟨o, h1, h2⟩ := l03Name_L1 k s hs k 0 (by omega) (by omega)
  rw [show ((0 : Nat) : Int) = 0 from rfl] at h1
  rw [h1]
  cases o with
  | ret r =>
    obtain ⟨rfl, i, h3, h4⟩ := h2
    have : ¬ nmOk s := fun h => h4 (h.1 i h3)
    simp [this]
  | done u =>
    simp only [Option.bind_some]
    rw [l01In]
    simp only [Option.bind_some]
    rw [nm_of h2]

theorem nameOk {k : Nat} {s : ByteArray} (hs : s.size ≤ maxLen) (hk : maxLen < k) : pimpl_nameOk k s = some (decide (nmOk s)) := by
  unfold pimpl_nameOk
  obtain ⟨o, h1, h2⟩ := nameOk_L1 k s hs k 0 (by omega) (by omega)
  rw [show ((0 : Nat) : Int) = 0 from rfl] at h1
  rw [h1]
  cases o with
  | ret r =>
    obtain ⟨rfl, i, h3, h4⟩ := h2
    have : ¬ nmOk s := fun h => h4 (h.1 i h3)
    simp [this]
  | done u =>
    simp only [Option.bind_some]
    rw [within]
    simp only [Option.bind_some]
    rw [nm_of h2]

/-- The head of a term is as it should be. -/
def one (x : GTerm) : Bool :=
  if x.gKind = 1 then inR x.gNum 0 99999 && (sEq x.gName (bs []) && ((x.gKids.length : Int) == 0))
  else if x.gKind = 2 then decide (nmOk x.gName) && ((x.gNum == 0) && ((x.gKids.length : Int) == 0))
  else if x.gKind = 3 then inR x.gNum (-999999999) 999999999 && (sEq x.gName (bs []) && ((x.gKids.length : Int) == 0))
  else if x.gKind = 4 then decide (nmOk x.gName) && ((x.gNum == 0) && inR (x.gKids.length : Int) 1 5)
  else false
mutual
/-- A term, at a depth, is as it should be. -/
def gT : Int → GTerm → Bool
  | d, .mk a b c l => decide (d ≤ 40) && (one (.mk a b c l) && gTs (d + 1) l)
def gTs : Int → List GTerm → Bool
  | _, [] => true
  | d, x :: l => gT d x && gTs d l
end
theorem gT_eq (d : Int) (x : GTerm) : gT d x = (decide (d ≤ 40) && (one x && gTs (d + 1) x.gKids)) := by
  cases x with
  | mk a b c l => rw [gT]; rfl
theorem gTs_drop {d : Int} {l : List GTerm} {j : Nat} (h : j < l.length) : gTs d (l.drop j) = (gT d l[j] && gTs d (l.drop (j + 1))) := by
  rw [List.drop_eq_getElem_cons h, gTs]
theorem ns_drop {l : List GTerm} {j : Nat} (h : j < l.length) : nsum nT (l.drop j) = 1 + nT l[j] + nsum nT (l.drop (j + 1)) := by
  rw [List.drop_eq_getElem_cons h, nsum]

theorem l03One {k : Nat} {x : GTerm} (hx : okFs x.gName) (hk : maxLen < k) : pspec_l03One k x = some (one x) := by
  have hn := l03Name (k := k) (s := x.gName) hx hk
  unfold pspec_l03One one
  simp only [hn, l01In, Option.bind_some]
  by_cases c1 : x.gKind = 1
  · rw [if_pos (by simpa using c1), if_pos c1]
    cases inR x.gNum 0 99999 <;> cases sEq x.gName (bs []) <;> simp
  rw [if_neg (by simpa using c1), if_neg c1]
  by_cases c2 : x.gKind = 2
  · rw [if_pos (by simpa using c2), if_pos c2]
    cases decide (nmOk x.gName) <;> by_cases h : x.gNum = 0 <;> simp [h]
  rw [if_neg (by simpa using c2), if_neg c2]
  by_cases c3 : x.gKind = 3
  · rw [if_pos (by simpa using c3), if_pos c3]
    cases inR x.gNum (-999999999) 999999999 <;> cases sEq x.gName (bs []) <;> simp
  rw [if_neg (by simpa using c3), if_neg c3]
  by_cases c4 : x.gKind = 4
  · rw [if_pos (by simpa using c4), if_pos c4]
    cases decide (nmOk x.gName) <;> by_cases h : x.gNum = 0 <;> simp [h]
  · rw [if_neg (by simpa using c4), if_neg c4]

/-- A term is right. -/
def tOk (x : GTerm) : Bool := decide (1 + nT x ≤ 400) && gT 1 x
/-- What the program counts. -/
def cnt (d : Int) (x : GTerm) : Int := if gT d x && decide (1 + nT x ≤ 400) then ((1 + nT x : Nat) : Int) else 401
theorem sized_L2 {k : Nat} {x : GTerm} {d : Int} {f : GTerm → Int → Option Int} (hx : x.gKids.length ≤ maxLen) (hd : wr.i64 (d + 1) = d + 1) (hf : ∀ y ∈ x.gKids, f y (d + 1) = some (cnt (d + 1) y)) :
    ∀ (m j : Nat) (b : Int), j ≤ x.gKids.length → x.gKids.length - j < m → 1 ≤ b → b ≤ 400 →
      pimpl_sized_L2 k f x d m b (j : Int) = some (if gTs (d + 1) (x.gKids.drop j) && decide (b + (nsum nT (x.gKids.drop j) : Int) ≤ 400) then .done (b + (nsum nT (x.gKids.drop j) : Int)) else .ret 401)
  | 0, j, b, h1, h2, h3, h4 => by omega
  | m + 1, j, b, h1, h2, h3, h4 => by
    unfold pimpl_sized_L2
    by_cases hlt : j < x.gKids.length
    · rw [if_pos (by simpa using hlt), at_lt hlt, hd]
      simp only [Option.bind_some, hf _ (List.getElem_mem hlt)]
      rw [gTs_drop hlt, ns_drop hlt, wr_succ hlt hx]
      by_cases hg : gT (d + 1) x.gKids[j] = true ∧ 1 + nT x.gKids[j] ≤ 400
      · have hc : cnt (d + 1) x.gKids[j] = ((1 + nT x.gKids[j] : Nat) : Int) := by unfold cnt; rw [if_pos (by simpa using hg)]
        rw [hc, wr_i64 (by omega) (by omega)]
        by_cases hs : b + ((1 + nT x.gKids[j] : Nat) : Int) > 400
        · rw [if_pos (by simpa using hs), if_neg]
          simp only [Bool.and_eq_true, decide_eq_true_eq, not_and]
          intro _; omega
        · rw [if_neg (by simpa using hs), sized_L2 hx hd hf m (j + 1) _ (by omega) (by omega) (by omega) (by omega), hg.1, Bool.true_and]
          have e1 : b + ((1 + nT x.gKids[j] : Nat) : Int) + (nsum nT (x.gKids.drop (j + 1)) : Int) = b + ((1 + nT x.gKids[j] + nsum nT (x.gKids.drop (j + 1)) : Nat) : Int) := by omega
          rw [e1]
      · have hc : cnt (d + 1) x.gKids[j] = 401 := by unfold cnt; rw [if_neg (by simpa using hg)]
        rw [hc, wr_i64 (by omega) (by omega), if_pos (by simp; omega), if_neg]
        simp only [Bool.and_eq_true, decide_eq_true_eq, not_and]
        intro h5
        have h6 : ¬ (1 + nT x.gKids[j] ≤ 400) := fun h => hg ⟨h5.1, h⟩
        omega
    · rw [if_neg (by simpa using hlt), List.drop_of_length_le (by omega), gTs, if_pos (by simp only [nsum]; simp; omega)]
      simp [nsum]

theorem sized : ∀ (k : Nat) (x : GTerm), maxLen + 2 * nT x + 2 < k → x.ok → ∀ d : Int, 0 ≤ d → d ≤ 41 → pimpl_sized k x d = some (cnt d x)
  | 0, x, h => by omega
  | k + 1, x, hw => by
    intro hx d h0 h1
    have hn := nT_kids x
    have hnm := nameOk (k := k) (s := x.gName) (ok_name hx) (by omega)
    have hJ : d ≤ 40 → one x = true → pimpl_sized_J1 k (pimpl_sized k) x d = some (cnt d x) := by
      intro hd h1
      unfold pimpl_sized_J1 cnt
      have e := sized_L2 (k := k) (x := x) (d := d) (ok_kids hx).1 (wr_i64 (by omega) (by omega)) (fun y hy => by have := nsum_mem (n := nT) hy; exact sized k y (by omega) ((ok_kids hx).2 y hy) (d + 1) (by omega) (by omega)) k 0 1 (by omega) (by have := (ok_kids hx).1; omega) (by omega) (by omega)
      rw [show ((0 : Nat) : Int) = 0 from rfl, List.drop_zero, ← hn] at e
      rw [e, gT_eq, h1, Bool.true_and, decide_eq_true hd, Bool.true_and]
      have e2 : decide (1 + (nT x : Int) ≤ 400) = decide (1 + nT x ≤ 400) := by rw [decide_eq_decide]; omega
      rw [e2]
      split
      · simp
      · simp
    have hbad : one x = false → (401 : Int) = cnt d x := by
      intro h1; unfold cnt; rw [gT_eq, h1]; simp
    unfold pimpl_sized
    by_cases hd : d > 40
    · rw [if_pos (by simpa using hd)]
      unfold cnt; rw [gT_eq, decide_eq_false (show ¬ d ≤ 40 by omega)]; simp
    have hJ' := hJ (by omega)
    rw [if_neg (by simpa using hd)]
    simp only [hnm, within, Option.bind_some]
    generalize pimpl_sized_J1 k (pimpl_sized k) x d = J at hJ' ⊢
    generalize cnt d x = C at hJ' hbad ⊢
    have hlen : ((x.gKids.length : Int) > 0) ↔ ¬ ((x.gKids.length : Int) = 0) := by omega
    unfold one at hJ' hbad
    by_cases c1 : x.gKind = 1
    · rw [if_pos (by simpa using c1)]
      rw [if_pos c1] at hJ' hbad
      cases h2 : inR x.gNum 0 99999 <;> cases h3 : sEq x.gName (bs []) <;> by_cases h4 : (x.gKids.length : Int) = 0 <;> simp_all
    rw [if_neg (by simpa using c1)]
    rw [if_neg c1] at hJ' hbad
    by_cases c2 : x.gKind = 2
    · rw [if_pos (by simpa using c2)]
      rw [if_pos c2] at hJ' hbad
      cases h2 : decide (nmOk x.gName) <;> by_cases h3 : x.gNum = 0 <;> by_cases h4 : (x.gKids.length : Int) = 0 <;> simp_all
    rw [if_neg (by simpa using c2)]
    rw [if_neg c2] at hJ' hbad
    by_cases c3 : x.gKind = 3
    · rw [if_pos (by simpa using c3)]
      rw [if_pos c3] at hJ' hbad
      cases h2 : inR x.gNum (-999999999) 999999999 <;> cases h3 : sEq x.gName (bs []) <;> by_cases h4 : (x.gKids.length : Int) = 0 <;> simp_all
    rw [if_neg (by simpa using c3)]
    rw [if_neg c3] at hJ' hbad
    by_cases c4 : x.gKind = 4
    · rw [if_pos (by simpa using c4)]
      rw [if_pos c4] at hJ' hbad
      cases h2 : decide (nmOk x.gName) <;> by_cases h3 : x.gNum = 0 <;> cases h4 : inR (x.gKids.length : Int) 1 5 <;> simp_all
    · rw [if_neg (by simpa using c4)]
      rw [if_neg c4] at hbad
      rw [hbad rfl]

theorem impl_TermOk {k : Nat} {x : GTerm} (hw : maxLen + 2 * nT x + 2 < k) (hx : x.ok) : pimpl_TermOk k x = some (tOk x) := by
  unfold pimpl_TermOk tOk
  rw [sized k x hw hx 1 (by omega) (by omega)]
  simp only [Option.bind_some]
  unfold cnt
  cases gT 1 x <;> by_cases h : 1 + nT x ≤ 400 <;> simp [h] <;> omega
theorem follow_L1 (k : Nat) (x : GHeap) (hl : x.gCells.length ≤ 1048576) : ∀ (m n : Nat) (a : Int), n ≤ x.gCells.length + 1 → x.gCells.length + 1 - n < m →
    ∃ o, pspec_l13Follow_L1 k x.gCells m a (n : Int) = some o ∧ pimpl_follow_L1 k x m a (n : Int) = some o
  | 0, n, a, h1, h2 => by omega
  | m + 1, n, a, h1, h2 => by
    unfold pspec_l13Follow_L1 pimpl_follow_L1
    have hw : wr.i64 ((x.gCells.length : Int) + 1) = (x.gCells.length : Int) + 1 := wr_i64 (by omega) (by omega)
    have hw1 : wr.i64 ((x.gCells.length : Int) - 1) = (x.gCells.length : Int) - 1 := wr_i64 (by omega) (by omega)
    rw [hw]
    by_cases hlt : n < x.gCells.length + 1
    · have hd1 : decide ((n : Int) ≤ (x.gCells.length : Int)) = true := by simp; omega
      have hd2 : decide ((n : Int) < (x.gCells.length : Int) + 1) = true := by simp; omega
      rw [if_pos hd1, if_pos hd2]
      unfold pimpl_isCell
      rw [l01InD, withinD, hw1]
      simp only [Option.bind_some]
      by_cases ha : 0 ≤ a ∧ a ≤ (x.gCells.length : Int) - 1
      · obtain ⟨i, rfl⟩ : ∃ i : Nat, a = (i : Int) := ⟨a.toNat, by omega⟩
        have hi : i < x.gCells.length := by omega
        have ih := follow_L1 k x hl m (n + 1) x.gCells[i].gTo (by omega) (by omega)
        have hs : wr.i64 ((n : Int) + 1) = ((n + 1 : Nat) : Int) := by rw [wr_i64 (by omega) (by omega)]; omega
        simp only [at_lt hi, Option.bind_some, hs]
        have hg : ¬ (!decide (0 ≤ ((i : Nat) : Int) ∧ ((i : Nat) : Int) ≤ (x.gCells.length : Int) - 1)) = true := by simp [ha]
        rw [if_neg hg, if_neg hg]
        split
        · exact ⟨_, rfl, rfl⟩
        · split
          · exact ⟨_, rfl, rfl⟩
          · exact ih
      · rw [if_pos (by simp only [decide_eq_false ha]; rfl), if_pos (by simp only [decide_eq_false ha]; rfl)]
        exact ⟨_, rfl, rfl⟩
    · have hd1 : ¬ decide ((n : Int) ≤ (x.gCells.length : Int)) = true := by simp; omega
      have hd2 : ¬ decide ((n : Int) < (x.gCells.length : Int) + 1) = true := by simp; omega
      rw [if_neg hd1, if_neg hd2]
      exact ⟨_, rfl, rfl⟩

theorem followBoth {k : Nat} {x : GHeap} (hx : x.gCells.length ≤ 1048576) (hk : maxLen < k) (a : Int) : ∃ r, pspec_FollowCell k x a = some r ∧ pimpl_follow k x a = some r := by
  unfold pspec_FollowCell pspec_l13Follow pimpl_follow
  obtain ⟨o, h1, h2⟩ := follow_L1 k x hx k 0 a (by omega) (by rw [maxLen_eq] at hk; omega)
  rw [show ((0 : Nat) : Int) = 0 from rfl] at h1 h2
  rw [h1, h2]
  cases o with
  | ret r => exact ⟨r, rfl, rfl⟩
  | done u => exact ⟨_, rfl, rfl⟩
/-- Is there a ref of this number? -/
def rf (l : List GCell) (v : Int) : Bool := l.any fun c => c.gKind == 1 && c.gNum == v
theorem mget_same : ∀ (l : List (Int × Int)) (k v : Int), mget (mset l k v) k = v
  | [], k, v => by simp [mset, mget]
  | p :: l, k, v => by
    rw [mset]
    by_cases h : p.1 = k
    · rw [if_pos h]; simp [mget]
    · rw [if_neg h, mget, if_neg h]; exact mget_same l k v
theorem mget_other : ∀ (l : List (Int × Int)) (k v q : Int), k ≠ q → mget (mset l k v) q = mget l q
  | [], k, v, q, h => by simp [mset, mget, h]
  | p :: l, k, v, q, h => by
    rw [mset]
    by_cases e : p.1 = k
    · rw [if_pos e, mget, mget, if_neg h, if_neg (by rw [e]; exact h)]
    · rw [if_neg e, mget, mget, mget_other l k v q h]
theorem isCell {k : Nat} {x : GHeap} (hn : x.gCells.length ≤ 60000) (a : Int) : pimpl_isCell k x a = some (decide (0 ≤ a ∧ a ≤ (x.gCells.length : Int) - 1)) := by
  unfold pimpl_isCell
  rw [withinD, wr_i64 (by omega) (by omega)]; rfl
theorem kids_L3 {k : Nat} {x : GHeap} {c : GCell} (hn : x.gCells.length ≤ 60000) (hc : c.gKids.length ≤ maxLen) : ∀ (m j : Nat), j ≤ c.gKids.length → c.gKids.length - j < m →
    ∃ o, pspec_HeapOk_L3 k c x m (j : Int) = some o ∧ pimpl_HeapOk_L3 k c x m (j : Int) = some o ∧ (∀ r, o = .ret r → r = false)
  | 0, j, h1, h2 => by omega
  | m + 1, j, h1, h2 => by
    unfold pspec_HeapOk_L3 pimpl_HeapOk_L3
    by_cases hlt : j < c.gKids.length
    · rw [if_pos (by simpa using hlt), if_pos (by simpa using hlt), at_lt hlt]
      simp only [Option.bind_some]
      rw [l01InD, isCell hn, wr_i64 (x := (x.gCells.length : Int) - 1) (by omega) (by omega), wr_succ hlt hc]
      simp only [Option.bind_some]
      by_cases h : 0 ≤ c.gKids[j] ∧ c.gKids[j] ≤ (x.gCells.length : Int) - 1
      · rw [decide_eq_true h]
        simp only [Bool.not_true, Bool.false_eq_true, if_false]
        exact kids_L3 hn hc m (j + 1) (by omega) (by omega)
      · rw [decide_eq_false h]
        exact ⟨_, rfl, rfl, fun r e => by cases e; rfl⟩
    · rw [if_neg (by simpa using hlt), if_neg (by simpa using hlt)]
      exact ⟨_, rfl, rfl, fun r e => by cases e⟩
theorem uniq_L4 {k : Nat} {x : GHeap} {c : GCell} (hn : x.gCells.length ≤ 60000) {i : Nat} (hi : i ≤ x.gCells.length) (hc : c.gKind = 1) : ∀ (m j : Nat), j ≤ i → i - j < m →
    pspec_HeapOk_L4 k (i : Int) c x m (j : Int) = some (if rf ((x.gCells.take i).drop j) c.gNum then .ret false else .done ())
  | 0, j, h1, h2 => by omega
  | m + 1, j, h1, h2 => by
    unfold pspec_HeapOk_L4
    by_cases hlt : j < i
    · have hj : j < x.gCells.length := by omega
      have hw : wr.i64 ((j : Int) + 1) = ((j + 1 : Nat) : Int) := by rw [wr_i64 (by omega) (by omega)]; omega
      have hd : (x.gCells.take i).drop j = x.gCells[j] :: (x.gCells.take i).drop (j + 1) := by
        rw [List.drop_eq_getElem_cons (by simp; omega)]; simp
      have hr : rf (x.gCells[j] :: (x.gCells.take i).drop (j + 1)) c.gNum = ((x.gCells[j].gKind == 1 && x.gCells[j].gNum == c.gNum) || rf ((x.gCells.take i).drop (j + 1)) c.gNum) := by unfold rf; rw [List.any_cons]
      rw [if_pos (by simpa using hlt), if_pos (by simpa using hc), at_lt hj, hd, hr, hw]
      simp only [Option.bind_some]
      cases h1 : (x.gCells[j].gKind == 1) with
      | false =>
        simp only [Bool.false_eq_true, if_false, Bool.false_and, Bool.false_or]
        exact uniq_L4 hn hi hc m (j + 1) (by omega) (by omega)
      | true =>
        cases h2 : (x.gCells[j].gNum == c.gNum) with
        | true => simp
        | false =>
          simp only [Bool.false_eq_true, if_false, if_true, Bool.true_and, Bool.false_or]
          exact uniq_L4 hn hi hc m (j + 1) (by omega) (by omega)
    · rw [if_neg (by simpa using hlt), List.drop_of_length_le (by simp; omega)]; simp [rf]
theorem uniq_L4n {k : Nat} {x : GHeap} {c : GCell} (hc : ¬ c.gKind = 1) (i : Int) {m : Nat} (hm : 0 < m) : pspec_HeapOk_L4 k i c x m 0 = some (.done ()) := by
  obtain ⟨q, rfl⟩ : ∃ q, m = q + 1 := ⟨m - 1, by omega⟩
  unfold pspec_HeapOk_L4
  split
  · rw [if_neg (by simpa using hc)]
  · rfl

/-- What the count of numbers says so far. -/
def Cnt (x : GHeap) (i : Nat) (j : List (Int × Int)) : Prop := ∀ v, mget j v = if rf (x.gCells.take i) v then 1 else 0
theorem rf_snoc {x : GHeap} {i : Nat} (hi : i < x.gCells.length) (v : Int) : rf (x.gCells.take (i + 1)) v = (rf (x.gCells.take i) v || (x.gCells[i].gKind == 1 && x.gCells[i].gNum == v)) := by
  rw [List.take_succ_eq_append_getElem hi]
  unfold rf
  rw [List.any_append]; simp

/-- What holds of the refs from a place on, when a heap is right. -/
def Refs (k : Nat) (x : GHeap) (i : Nat) : Prop := ∀ t, i ≤ t → (h : t < x.gCells.length) → (1 ≤ x.gCells[t].gKind ∧ x.gCells[t].gKind ≤ 4) ∧ (x.gCells[t].gKind = 1 → (-1 ≤ x.gCells[t].gTo ∧ x.gCells[t].gTo ≤ (x.gCells.length : Int) - 1) ∧ ∃ r, pspec_FollowCell k x (t : Int) = some r ∧ 0 ≤ r)
def Good (k : Nat) (x : GHeap) (i : Nat) (o : Out Bool Unit) : Prop := (∀ r, o = .ret r → r = false) ∧ (o = .done () → Refs k x i)
theorem Good.bad {k : Nat} {x : GHeap} {i : Nat} : Good k x i (.ret false) := ⟨(fun r e => by cases e; rfl), fun e => by cases e⟩
theorem Good.end_ {k : Nat} {x : GHeap} {i : Nat} {o : Out Bool Unit} (h : x.gCells.length ≤ i) (ho : o = .done ()) : Good k x i o := ⟨(fun r e => by rw [ho] at e; cases e), fun _ t h1 h2 => by omega⟩
theorem Good.step {k : Nat} {x : GHeap} {i : Nat} {o : Out Bool Unit} (h : Good k x (i + 1) o) (hi : i < x.gCells.length) (hp0 : 1 ≤ x.gCells[i].gKind ∧ x.gCells[i].gKind ≤ 4) (hp : x.gCells[i].gKind = 1 → (-1 ≤ x.gCells[i].gTo ∧ x.gCells[i].gTo ≤ (x.gCells.length : Int) - 1) ∧ ∃ r, pspec_FollowCell k x (i : Int) = some r ∧ 0 ≤ r) : Good k x i o :=
  ⟨h.1, fun e t h1 h2 => by
    by_cases hti : t = i
    · subst hti; exact ⟨hp0, hp⟩
    · exact h.2 e t (by omega) h2⟩

theorem cells_L1 {k : Nat} {x : GHeap} (hn : x.gCells.length ≤ 60000) (hok : okL GCell.ok x.gCells) (hk : maxLen < k) : ∀ (m i : Nat) (j : List (Int × Int)), i ≤ x.gCells.length → x.gCells.length - i < m → Cnt x i j →
    ∃ o, pspec_HeapOk_L1 k x m (i : Int) = some o ∧ pimpl_HeapOk_L1 k x m (i : Int) j = some o ∧ Good k x i o
  | 0, i, j, h1, h2, h3 => by omega
  | m + 1, i, j, h1, h2, h3 => by
    have hM := maxLen_eq
    unfold pspec_HeapOk_L1 pimpl_HeapOk_L1
    by_cases hlt : i < x.gCells.length
    · have hw : wr.i64 ((i : Int) + 1) = ((i + 1 : Nat) : Int) := by rw [wr_i64 (by omega) (by omega)]; omega
      have hkids : x.gCells[i].gKids.length ≤ maxLen := (hok.2 _ (List.getElem_mem hlt)).2.2.2.2.1
      obtain ⟨o3, a1, a2, a3⟩ := kids_L3 (k := k) (c := x.gCells[i]) hn hkids k 0 (by omega) (by omega)
      rw [show ((0 : Nat) : Int) = 0 from rfl] at a1 a2
      obtain ⟨fo, f1, f2⟩ := followBoth (k := k) (x := x) (by omega) hk (i : Int)
      have hw1 : wr.i64 ((x.gCells.length : Int) - 1) = (x.gCells.length : Int) - 1 := wr_i64 (by omega) (by omega)
      rw [if_pos (by simpa using hlt), if_pos (by simpa using hlt), at_lt hlt]
      simp only [Option.bind_some]
      rw [l01InD, withinD]
      simp only [Option.bind_some]
      by_cases hkd : 1 ≤ x.gCells[i].gKind ∧ x.gCells[i].gKind ≤ 4
      · rw [decide_eq_true hkd]
        simp only [Bool.not_true, Bool.false_eq_true, if_false]
        by_cases hk1 : x.gCells[i].gKind = 1
        · have hk1' : (x.gCells[i].gKind == 1) = true := by simpa using hk1
          have u4 := uniq_L4 (k := k) (c := x.gCells[i]) hn (i := i) (by omega) hk1 k 0 (by omega) (by omega)
          rw [show ((0 : Nat) : Int) = 0 from rfl, List.drop_zero] at u4
          have hj := h3 x.gCells[i].gNum
          rw [if_pos hk1', if_pos hk1', l01InD, mget_same, hw1, isCell hn, f1, f2]
          simp only [Option.bind_some]
          cases hr : rf (x.gCells.take i) x.gCells[i].gNum with
          | true =>
            -- the number was met before
            rw [hr, if_pos rfl] at hj
            rw [hr, if_pos rfl] at u4
            have : wr.i64 (mget j x.gCells[i].gNum + 1) > 1 := by rw [hj]; decide
            rw [if_pos (show decide (wr.i64 (mget j x.gCells[i].gNum + 1) > 1) = true from decide_eq_true this)]
            refine ⟨.ret false, ?_, rfl, Good.bad⟩
            split
            · rfl
            · split
              · rfl
              · unfold pspec_HeapOk_J2
                rw [a1]
                simp only [Option.bind_some]
                cases o3 with
                | ret r =>
                  have : r = false := a3 r rfl
                  subst this; rfl
                | done u => cases u; show (pspec_HeapOk_L4 k (i : Int) x.gCells[i] x k 0).bind _ = _; rw [u4]; rfl
          | false =>
            rw [hr, if_neg (by simp)] at hj
            rw [hr, if_neg (by simp)] at u4
            have hv : wr.i64 (mget j x.gCells[i].gNum + 1) = 1 := by rw [hj]; decide
            rw [hv, if_neg (show ¬ decide ((1 : Int) > 1) = true by decide)]
            have hcnt : Cnt x (i + 1) (mset j x.gCells[i].gNum 1) := by
              intro v
              rw [rf_snoc hlt, hk1', Bool.true_and]
              by_cases hv : x.gCells[i].gNum = v
              · subst hv; rw [mget_same]; simp
              · rw [mget_other _ _ _ _ hv, h3 v]; simp [hv]
            have rest : ∃ o, pspec_HeapOk_J2 k (pspec_HeapOk_L1 k x m) x.gCells[i] x (i : Int) = some o ∧ pimpl_HeapOk_J2 k (pimpl_HeapOk_L1 k x m) x.gCells[i] x (i : Int) (mset j x.gCells[i].gNum 1) = some o ∧ Good k x (i + 1) o := by
              unfold pspec_HeapOk_J2 pimpl_HeapOk_J2
              rw [a1, a2]
              simp only [Option.bind_some]
              cases o3 with
              | ret r => cases a3 r rfl; exact ⟨_, rfl, rfl, Good.bad⟩
              | done u =>
                cases u
                simp only [u4, Option.bind_some, hw]
                exact cells_L1 hn hok hk m (i + 1) _ (by omega) (by omega) hcnt
            obtain ⟨o, g1, g2, g3⟩ := rest
            by_cases ht : x.gCells[i].gTo = -1
            · have hin : (-1 : Int) ≤ x.gCells[i].gTo ∧ x.gCells[i].gTo ≤ (x.gCells.length : Int) - 1 := by omega
              rw [decide_eq_true hin, if_neg (show ¬ (x.gCells[i].gTo != -1) = true by simp [ht])]
              simp only [Bool.not_true, Bool.false_eq_true, if_false]
              split
              · exact ⟨_, rfl, rfl, Good.bad⟩
              · rename_i hf
                exact ⟨o, g1, g2, g3.step hlt hkd fun _ => ⟨hin, fo, f1, by simpa using hf⟩⟩
            · rw [if_pos (show (x.gCells[i].gTo != -1) = true by simpa using ht)]
              by_cases hin : (0 : Int) ≤ x.gCells[i].gTo ∧ x.gCells[i].gTo ≤ (x.gCells.length : Int) - 1
              · rw [decide_eq_true hin, decide_eq_true (show (-1 : Int) ≤ x.gCells[i].gTo ∧ x.gCells[i].gTo ≤ (x.gCells.length : Int) - 1 from ⟨by omega, hin.2⟩)]
                simp only [Bool.not_true, Bool.false_eq_true, if_false]
                split
                · exact ⟨_, rfl, rfl, Good.bad⟩
                · rename_i hf
                  exact ⟨o, g1, g2, g3.step hlt hkd fun _ => ⟨⟨by omega, hin.2⟩, fo, f1, by simpa using hf⟩⟩
              · rw [decide_eq_false hin, decide_eq_false (show ¬ ((-1 : Int) ≤ x.gCells[i].gTo ∧ x.gCells[i].gTo ≤ (x.gCells.length : Int) - 1) by omega)]
                exact ⟨_, rfl, rfl, Good.bad⟩
        · have hk1' : ¬ (x.gCells[i].gKind == 1) = true := by simpa using hk1
          have u4 := uniq_L4n (k := k) (x := x) hk1 (i : Int) (m := k) (by omega)
          rw [if_neg hk1', if_neg hk1']
          unfold pspec_HeapOk_J2 pimpl_HeapOk_J2
          rw [a1, a2]
          simp only [Option.bind_some]
          cases o3 with
          | ret r => cases a3 r rfl; exact ⟨_, rfl, rfl, Good.bad⟩
          | done u =>
            cases u
            simp only [u4, Option.bind_some, hw]
            have hcnt : Cnt x (i + 1) j := fun v => by
              rw [rf_snoc hlt, h3 v]
              have : (x.gCells[i].gKind == 1) = false := by simpa using hk1
              rw [this]; simp
            obtain ⟨o, g1, g2, g3⟩ := cells_L1 hn hok hk m (i + 1) j (by omega) (by omega) hcnt
            exact ⟨o, g1, g2, g3.step hlt hkd fun h => absurd h hk1⟩
      · rw [decide_eq_false hkd]
        exact ⟨_, rfl, rfl, Good.bad⟩
    · rw [if_neg (by simpa using hlt), if_neg (by simpa using hlt)]
      exact ⟨_, rfl, rfl, Good.end_ (by omega) rfl⟩

theorem trail_L {k : Nat} {x : GHeap} (hn : x.gCells.length ≤ 60000) (ht : x.gTrail.length ≤ maxLen) : ∀ (m j : Nat), j ≤ x.gTrail.length → x.gTrail.length - j < m →
    ∃ o, pspec_HeapOk_L5 k x m (j : Int) = some o ∧ pimpl_HeapOk_L4 k x m (j : Int) = some o ∧ (∀ r, o = .ret r → r = false)
  | 0, j, h1, h2 => by omega
  | m + 1, j, h1, h2 => by
    unfold pspec_HeapOk_L5 pimpl_HeapOk_L4
    by_cases hlt : j < x.gTrail.length
    · rw [if_pos (by simpa using hlt), if_pos (by simpa using hlt), at_lt hlt]
      simp only [Option.bind_some]
      rw [l01InD, isCell hn, wr_i64 (x := (x.gCells.length : Int) - 1) (by omega) (by omega), wr_succ hlt ht]
      simp only [Option.bind_some]
      by_cases h : 0 ≤ x.gTrail[j] ∧ x.gTrail[j] ≤ (x.gCells.length : Int) - 1
      · rw [decide_eq_true h]
        simp only [Bool.not_true, Bool.false_eq_true, if_false]
        obtain ⟨q, hq⟩ : ∃ q : Nat, x.gTrail[j] = (q : Int) := ⟨x.gTrail[j].toNat, by omega⟩
        rw [hq, at_lt (show q < x.gCells.length by omega)]
        simp only [Option.bind_some]
        split
        · exact ⟨_, rfl, rfl, fun r e => by cases e; rfl⟩
        · exact trail_L hn ht m (j + 1) (by omega) (by omega)
      · rw [decide_eq_false h]
        exact ⟨_, rfl, rfl, fun r e => by cases e; rfl⟩
    · rw [if_neg (by simpa using hlt), if_neg (by simpa using hlt)]
      exact ⟨_, rfl, rfl, fun r e => by cases e⟩

theorem heapOk {k : Nat} {x : GHeap} (hx : x.ok) (hk : maxLen < k) : ∃ b, pspec_HeapOk k x = some b ∧ pimpl_HeapOk k x = some b ∧ (b = true → x.gCells.length ≤ 60000 ∧ Refs k x 0) := by
  have hM := maxLen_eq
  unfold pspec_HeapOk pimpl_HeapOk
  by_cases h : (x.gCells.length : Int) > 60000
  · rw [if_pos (by simpa using h), if_pos (by simpa using h)]; exact ⟨_, rfl, rfl, fun e => by cases e⟩
  · have hn : x.gCells.length ≤ 60000 := by omega
    obtain ⟨o, g1, g2, g3⟩ := cells_L1 (k := k) hn hx.1 hk k 0 [] (by omega) (by omega) (fun v => by simp [mget, rf])
    obtain ⟨o2, q1, q2, q3⟩ := trail_L (k := k) hn hx.2.1 k 0 (by omega) (by have := hx.2.1; omega)
    rw [show ((0 : Nat) : Int) = 0 from rfl] at g1 g2 q1 q2
    rw [if_neg (by simpa using h), if_neg (by simpa using h), g1, g2]
    simp only [Option.bind_some]
    cases o with
    | ret r => cases g3.1 r rfl; exact ⟨_, rfl, rfl, fun e => by cases e⟩
    | done u =>
      cases u
      simp only []
      rw [q1, q2]
      simp only [Option.bind_some]
      cases o2 with
      | ret r => cases q3 r rfl; exact ⟨_, rfl, rfl, fun e => by cases e⟩
      | done u => cases u; exact ⟨_, rfl, rfl, fun _ => ⟨hn, g3.2 rfl⟩⟩
theorem nflat {α : Type} : ∀ l : List α, nsum (fun _ => 0) l = l.length
  | [] => rfl
  | x :: l => by simp only [nsum, nflat l, List.length_cons]; omega
theorem nCell_len (c : GCell) : nCell c = c.gKids.length := nflat _
theorem follow_range (k : Nat) (x : GHeap) (hn : x.gCells.length ≤ 60000) : ∀ (m j : Nat) (a r : Int), pspec_l13Follow_L1 k x.gCells m a (j : Int) = some (.ret r) → r = -1 ∨ (0 ≤ r ∧ r < (x.gCells.length : Int))
  | 0, j, a, r, h => by cases h
  | m + 1, j, a, r, h => by
    unfold pspec_l13Follow_L1 at h
    by_cases hj : (j : Int) ≤ (x.gCells.length : Int)
    · have hw : wr.i64 ((j : Int) + 1) = ((j + 1 : Nat) : Int) := by rw [wr_i64 (by omega) (by omega)]; omega
      rw [if_pos (by simpa using hj), l01InD, wr_i64 (x := (x.gCells.length : Int) - 1) (by omega) (by omega), hw] at h
      simp only [Option.bind_some] at h
      by_cases ha : 0 ≤ a ∧ a ≤ (x.gCells.length : Int) - 1
      · rw [decide_eq_true ha] at h
        simp only [Bool.not_true, Bool.false_eq_true, if_false] at h
        obtain ⟨c, _, h⟩ := obind h
        split at h
        · cases h; right; omega
        · obtain ⟨c2, _, h⟩ := obind h
          split at h
          · cases h; right; omega
          · obtain ⟨c3, _, h⟩ := obind h
            exact follow_range k x hn m (j + 1) _ r h
      · rw [decide_eq_false ha] at h
        simp only [Bool.not_false, if_true] at h
        cases h; exact .inl rfl
    · rw [if_neg (by simpa using hj)] at h; cases h
theorem followR {k : Nat} {x : GHeap} (hn : x.gCells.length ≤ 60000) (hk : maxLen < k) (a : Int) : ∃ r, pspec_l13Follow k x.gCells a = some r ∧ pimpl_follow k x a = some r ∧ (r < 0 ∨ ∃ i : Nat, r = (i : Int) ∧ i < x.gCells.length) := by
  obtain ⟨r, h1, h2⟩ := followBoth (k := k) (x := x) (by omega) hk a
  unfold pspec_FollowCell at h1
  obtain ⟨q, hq, h1⟩ := obind h1
  have e := Option.some.inj h1
  subst e
  refine ⟨q, hq, h2, ?_⟩
  unfold pspec_l13Follow at hq
  obtain ⟨o, ho, hq⟩ := obind hq
  cases o with
  | ret r =>
    have e := Option.some.inj hq
    subst e
    have := follow_range k x hn k 0 a r ho
    rcases this with rfl | h
    · left; omega
    · exact .inr ⟨r.toNat, by omega, by omega⟩
  | done u => have e := Option.some.inj hq; left; omega

/-- What reading a cell gives, one way and the other. -/
def RdOk (x : GHeap) (d L L' : Int) (t : GTerm) (ok : Bool) (s : GL13Read) (t' : GTerm) : Prop :=
  s.gCells = x.gCells ∧ (ok = false → s.gBad = true) ∧ (ok = true → d ≤ 40 ∧ 0 ≤ L' ∧ L' = L - (1 + (nT t : Int)) ∧ t.ok ∧ s.gBad = !(gT d t) ∧ (gT d t = true → t' = t ∧ s.gLeft = L'))
theorem eta (x : GTerm) : GTerm.mk x.gKind x.gName x.gNum x.gKids = x := by cases x; rfl
theorem etaR (x : GL13Read) : GL13Read.mk x.gCells x.gLeft x.gBad = x := rfl
theorem L2bad {k : Nat} {F : GL13Read → Int → Int → Option (GL13Read × GTerm)} {c : GCell} {d : Int} {s : GL13Read} (hs : s.gBad = true) {m : Nat} (hm : 0 < m) (j : Int) (t : GTerm) : pspec_l13Read_read_L2 k F c d m j t s = some (.done (t, s)) := by
  obtain ⟨q, rfl⟩ : ∃ q, m = q + 1 := ⟨m - 1, by omega⟩
  unfold pspec_l13Read_read_L2
  split
  · rw [hs]; rfl
  · rfl

/-- What the program's loop over the kids ends with. -/
def EndI (kd : Int) (nm : ByteArray) (nu : Int) (acc : List GTerm) (n : Nat) (L : Int) : Out (Int × GTerm × Bool) (GTerm × Int) → Prop
  | .ret r => r.2.2 = false
  | .done r => ∃ ks, r.1 = .mk kd nm nu (acc ++ ks) ∧ ks.length = n ∧ 0 ≤ r.2 ∧ r.2 = L - (nsum nT ks : Int) ∧ ∀ y ∈ ks, y.ok
theorem loopI {k : Nat} {x : GHeap} {c : GCell} {d : Int} {I : GHeap → Int → Int → Int → Option (Int × GTerm × Bool)} (kd : Int) (nm : ByteArray) (nu : Int) (hc : c.gKids.length ≤ 1048576) (hw : wr.i64 (d + 1) = d + 1)
    (hI : ∀ b L, 0 ≤ L → L ≤ 400 → ∃ L' t ok, I x b (d + 1) L = some (L', t, ok) ∧ (ok = true → 0 ≤ L' ∧ L' = L - (1 + (nT t : Int)) ∧ t.ok)) :
    ∀ (m j : Nat) (acc : List GTerm) (L : Int), j ≤ c.gKids.length → c.gKids.length - j < m → 0 ≤ L → L ≤ 400 → acc.length ≤ j →
      ∃ o, pimpl_termAt_L1 k I c x d m (j : Int) (.mk kd nm nu acc) L = some o ∧ EndI kd nm nu acc (c.gKids.length - j) L o
  | 0, j, acc, L, h1, h2, h3, h4, h5 => by omega
  | m + 1, j, acc, L, h1, h2, h3, h4, h5 => by
    have hm : c.gKids.length ≤ maxLen := by rw [maxLen_eq]; omega
    unfold pimpl_termAt_L1
    by_cases hlt : j < c.gKids.length
    · obtain ⟨L', t, ok, e1, e2⟩ := hI c.gKids[j] L h3 h4
      rw [if_pos (by simpa using hlt), at_lt hlt, hw]
      simp only [Option.bind_some, e1]
      cases ok with
      | false => exact ⟨_, rfl, rfl⟩
      | true =>
        obtain ⟨q1, q2, q3⟩ := e2 rfl
        simp only [Bool.not_true, Bool.false_eq_true, if_false, eta, mk_gKids, mk_gKind, mk_gName, mk_gNum]
        rw [if_pos (by simp <;> omega), wr_succ hlt hm]
        obtain ⟨o, g1, g2⟩ := loopI kd nm nu hc hw hI m (j + 1) (acc ++ [t]) L' (by omega) (by omega) q1 (by omega) (by simp <;> omega)
        refine ⟨o, g1, ?_⟩
        cases o with
        | ret r => exact g2
        | done r =>
          obtain ⟨ks, a1, a2, a3, a4, a5⟩ := g2
          refine ⟨t :: ks, by rw [a1]; simp, by simp only [List.length_cons, a2]; omega, a3, by rw [a4]; simp only [nsum]; omega, fun y hy => ?_⟩
          rcases List.mem_cons.1 hy with rfl | hy
          · exact q3
          · exact a5 y hy
    · rw [if_neg (by simpa using hlt)]
      exact ⟨_, rfl, [], by simp, by simp only [List.length_nil]; omega, h3, by simp [nsum], fun y hy => by cases hy⟩

theorem loopB {k : Nat} {x : GHeap} {c : GCell} {d : Int} {F : GL13Read → Int → Int → Option (GL13Read × GTerm)} {I : GHeap → Int → Int → Int → Option (Int × GTerm × Bool)} (kd : Int) (nm : ByteArray) (nu : Int) (hc : c.gKids.length ≤ 1048576) (hw : wr.i64 (d + 1) = d + 1)
    (hF : ∀ b L, 0 ≤ L → L ≤ 400 → ∃ L' t ok s t', I x b (d + 1) L = some (L', t, ok) ∧ F (GL13Read.mk x.gCells L false) b (d + 1) = some (s, t') ∧ RdOk x (d + 1) L L' t ok s t') :
    ∀ (m j : Nat) (acc : List GTerm) (L : Int), j ≤ c.gKids.length → c.gKids.length - j < m → 0 ≤ L → L ≤ 400 → acc.length ≤ j →
      ∃ o t' s, pimpl_termAt_L1 k I c x d m (j : Int) (.mk kd nm nu acc) L = some o ∧ EndI kd nm nu acc (c.gKids.length - j) L o ∧
        pspec_l13Read_read_L2 k F c d m (j : Int) (.mk kd nm nu acc) (GL13Read.mk x.gCells L false) = some (.done (t', s)) ∧ s.gCells = x.gCells ∧ t'.gName = nm ∧
        (match o with
          | .ret _ => s.gBad = true
          | .done r => ∃ ks, r.1 = .mk kd nm nu (acc ++ ks) ∧ s.gBad = !(gTs (d + 1) ks) ∧ (gTs (d + 1) ks = true → t' = r.1 ∧ s.gLeft = r.2))
  | 0, j, acc, L, h1, h2, h3, h4, h5 => by omega
  | m + 1, j, acc, L, h1, h2, h3, h4, h5 => by
    have hm : c.gKids.length ≤ maxLen := by rw [maxLen_eq]; omega
    have hI : ∀ b L, 0 ≤ L → L ≤ 400 → ∃ L' t ok, I x b (d + 1) L = some (L', t, ok) ∧ (ok = true → 0 ≤ L' ∧ L' = L - (1 + (nT t : Int)) ∧ t.ok) := by
      intro b L h0 h1
      obtain ⟨L', t, ok, s, t', e1, _, e3⟩ := hF b L h0 h1
      exact ⟨L', t, ok, e1, fun h => ⟨(e3.2.2 h).2.1, (e3.2.2 h).2.2.1, (e3.2.2 h).2.2.2.1⟩⟩
    by_cases hlt : j < c.gKids.length
    · obtain ⟨L', t, ok, s, t', e1, e2, r1, r2, r3⟩ := hF c.gKids[j] L h3 h4
      have step : pspec_l13Read_read_L2 k F c d (m + 1) (j : Int) (.mk kd nm nu acc) (GL13Read.mk x.gCells L false) = pspec_l13Read_read_L2 k F c d m ((j + 1 : Nat) : Int) (.mk kd nm nu (acc ++ [t'])) s := by
        rw [pspec_l13Read_read_L2]
        rw [if_pos (by simpa using hlt), if_pos (by simp), at_lt hlt, hw]
        simp only [Option.bind_some, e2, eta, etaR, mk_gKids, mk_gKind, mk_gName, mk_gNum]
        rw [if_pos (by simp <;> omega), wr_succ hlt hm]
      have bad : s.gBad = true → pspec_l13Read_read_L2 k F c d m ((j + 1 : Nat) : Int) (.mk kd nm nu (acc ++ [t'])) s = some (.done (.mk kd nm nu (acc ++ [t']), s)) := fun hs => L2bad hs (by omega) _ _
      cases ok with
      | false =>
        have hs := r2 rfl
        refine ⟨.ret (L', .mk 0 (bs []) 0 [], false), _, s, ?_, rfl, by rw [step, bad hs], r1, rfl, hs⟩
        unfold pimpl_termAt_L1
        rw [if_pos (by simpa using hlt), at_lt hlt, hw]
        simp only [Option.bind_some, e1, Bool.not_false, if_true]
      | true =>
        obtain ⟨q0, q1, q2, q3, q4, q5⟩ := r3 rfl
        have istep : pimpl_termAt_L1 k I c x d (m + 1) (j : Int) (.mk kd nm nu acc) L = pimpl_termAt_L1 k I c x d m ((j + 1 : Nat) : Int) (.mk kd nm nu (acc ++ [t])) L' := by
          rw [pimpl_termAt_L1]
          rw [if_pos (by simpa using hlt), at_lt hlt, hw]
          simp only [Option.bind_some, e1, Bool.not_true, Bool.false_eq_true, if_false, eta, mk_gKids, mk_gKind, mk_gName, mk_gNum]
          rw [if_pos (by simp <;> omega), wr_succ hlt hm]
        have lift : ∀ o, EndI kd nm nu (acc ++ [t]) (c.gKids.length - (j + 1)) L' o → EndI kd nm nu acc (c.gKids.length - j) L o := by
          intro o g2
          cases o with
          | ret r => exact g2
          | done r =>
            obtain ⟨ks, a1, a2, a3, a4, a5⟩ := g2
            refine ⟨t :: ks, by rw [a1]; simp, by simp only [List.length_cons, a2]; omega, a3, by rw [a4]; simp only [nsum]; omega, fun y hy => ?_⟩
            rcases List.mem_cons.1 hy with rfl | hy
            · exact q3
            · exact a5 y hy
        rw [istep, step]
        cases hg : gT (d + 1) t with
        | false =>
          rw [hg] at q4
          obtain ⟨o, g1, g2⟩ := loopI (k := k) kd nm nu hc hw hI m (j + 1) (acc ++ [t]) L' (by omega) (by omega) q1 (by omega) (by simp <;> omega)
          refine ⟨o, _, s, g1, lift o g2, bad q4, r1, rfl, ?_⟩
          cases o with
          | ret r => exact q4
          | done r =>
            obtain ⟨ks, a1, _⟩ := g2
            have hgs : gTs (d + 1) (t :: ks) = false := by rw [gTs, hg]; rfl
            exact ⟨t :: ks, by rw [a1]; simp, by rw [hgs, q4], fun h => by rw [hgs] at h; cases h⟩
        | true =>
          rw [hg] at q4
          obtain ⟨rfl, hleft⟩ := q5 hg
          have hs : s = GL13Read.mk x.gCells L' false := by
            cases s with
            | mk a b c =>
              have e1 : a = x.gCells := r1
              have e2 : b = L' := hleft
              have e3 : c = false := q4
              rw [e1, e2, e3]
          rw [hs]
          obtain ⟨o, u, s', g1, g2, g3, g4, g5, g6⟩ := loopB kd nm nu hc hw hF m (j + 1) (acc ++ [t']) L' (by omega) (by omega) q1 (by omega) (by simp <;> omega)
          refine ⟨o, u, s', g1, lift o g2, g3, g4, g5, ?_⟩
          cases o with
          | ret r => exact g6
          | done r =>
            obtain ⟨ks, a1, a2, a3⟩ := g6
            have hgs : gTs (d + 1) (t' :: ks) = gTs (d + 1) ks := by rw [gTs, hg]; rfl
            exact ⟨t' :: ks, by rw [a1]; simp, by rw [hgs]; exact a2, by rw [hgs]; exact a3⟩
    · unfold pspec_l13Read_read_L2 pimpl_termAt_L1
      rw [if_neg (by simpa using hlt), if_neg (by simpa using hlt)]
      exact ⟨_, _, _, rfl, ⟨[], by simp, by simp only [List.length_nil]; omega, h3, by simp [nsum], fun y hy => by cases hy⟩, rfl, rfl, rfl, [], by simp, by simp [gTs], fun _ => ⟨rfl, rfl⟩⟩

theorem kindI {q : Int} (h : 1 ≤ q ∧ q ≤ 4) : mget (mset (mset (mset (mset [] 1 1) 2 2) 3 3) 4 4) q = q ∧ at' [(0 : Int), 1, 2, 3, 4] q = some q := by
  have : q = 1 ∨ q = 2 ∨ q = 3 ∨ q = 4 := by omega
  rcases this with rfl | rfl | rfl | rfl <;> exact ⟨rfl, rfl⟩

theorem read {x : GHeap} (hn : x.gCells.length ≤ 60000) (hsz : nsum nCell x.gCells ≤ 1048576) (hok : okL GCell.ok x.gCells) (hkd : ∀ (t : Nat) (h : t < x.gCells.length), 1 ≤ x.gCells[t].gKind ∧ x.gCells[t].gKind ≤ 4) : ∀ (k : Nat) (a d L : Int), 1 ≤ d → d ≤ 41 → (maxLen : Int) + 42 < (k : Int) + d → 0 ≤ L → L ≤ 400 →
    ∃ L' t ok s t', pimpl_termAt k x a d L = some (L', t, ok) ∧ pspec_l13Read_read k (GL13Read.mk x.gCells L false) a d = some (s, t') ∧ RdOk x d L L' t ok s t'
  | 0, a, d, L, h1, h2, h3, h4, h5 => by have := maxLen_eq; omega
  | k + 1, a, d, L, h1, h2, h3, h4, h5 => by
    have hM := maxLen_eq
    have hk : maxLen < k := by omega
    obtain ⟨r, f1, f2, f3⟩ := followR (k := k) hn hk a
    have hwL : wr.i64 (L - 1) = L - 1 := wr_i64 (by omega) (by omega)
    have hwd : wr.i64 (d + 1) = d + 1 := wr_i64 (by omega) (by omega)
    have fail : ∀ q : Option (Int × GTerm × Bool), q = some (L - 1, .mk 0 (bs []) 0 [], false) → ∀ p : Option (GL13Read × GTerm), p = some (GL13Read.mk x.gCells (L - 1) true, GTerm.mk 0 (bs []) 0 []) →
        ∃ L' t ok s t', q = some (L', t, ok) ∧ p = some (s, t') ∧ RdOk x d L L' t ok s t' := by
      rintro q rfl p rfl
      exact ⟨_, _, _, _, _, rfl, rfl, rfl, fun _ => rfl, fun h => by cases h⟩
    unfold pimpl_termAt pspec_l13Read_read
    simp only [f1, f2, Option.bind_some, hwL, Bool.false_eq_true, if_false]
    by_cases hr : r < 0
    · have hr' : decide (r < 0) = true := decide_eq_true hr
      rw [if_pos hr', if_pos hr']
      refine fail _ rfl _ ?_
      unfold pspec_l13Read_read_J1
      rw [if_pos rfl, hwL]
    have hr' : ¬ decide (r < 0) = true := by rw [decide_eq_false hr]; exact Bool.false_ne_true
    rw [if_neg hr', if_neg hr']
    by_cases hd : d > 40
    · have hd' : decide (d > 40) = true := decide_eq_true hd
      rw [if_pos hd']
      refine fail _ rfl _ ?_
      unfold pspec_l13Read_read_J1
      split
      · rw [if_pos rfl, hwL]
      · simp only [hwL]
    have hd' : ¬ decide (d > 40) = true := by rw [decide_eq_false hd]; exact Bool.false_ne_true
    rw [if_neg hd']
    by_cases hL : L - 1 < 0
    · have hL' : decide (L - 1 < 0) = true := decide_eq_true hL
      rw [if_pos hL', if_pos hL']
      refine fail _ rfl _ ?_
      unfold pspec_l13Read_read_J1
      rw [if_pos rfl, hwL]
    have hL' : ¬ decide (L - 1 < 0) = true := by rw [decide_eq_false hL]; exact Bool.false_ne_true
    rw [if_neg hL', if_neg hL']
    rcases f3 with f3 | ⟨i, rfl, hi⟩
    · exact absurd f3 hr
    have hmem := nsum_mem (n := nCell) (List.getElem_mem hi)
    have hnc := nCell_len x.gCells[i]
    have hcok := hok.2 _ (List.getElem_mem hi)
    obtain ⟨k1, k2⟩ := kindI (hkd i hi)
    obtain ⟨o, t', s, g1, g2, g3, g4, g5, g6⟩ := loopB (k := k) (x := x) (c := x.gCells[i]) (d := d) (F := pspec_l13Read_read k) (I := pimpl_termAt k) x.gCells[i].gKind x.gCells[i].gName x.gCells[i].gNum (by omega) hwd (fun b L h0 h1 => read hn hsz hok hkd k b (d + 1) L (by omega) (by omega) (by omega) h0 h1) k 0 [] (L - 1) (by omega) (by omega) (by omega) (by omega) (by simp)
    rw [show ((0 : Nat) : Int) = 0 from rfl] at g1 g3
    unfold pspec_l13Read_read_J1
    rw [at_lt hi, if_neg hd']
    simp only [Option.bind_some, k1, k2, hwL]
    rw [g1, g3]
    simp only [Option.bind_some]
    have hone := l03One (k := k) (x := t') (by rw [g5]; exact hcok.2.1) hk
    rw [hone]
    simp only [Option.bind_some]
    cases o with
    | ret q =>
      obtain ⟨L', t, ok⟩ := q
      have hokf : ok = false := g2
      subst hokf
      have hb : s.gBad = true := g6
      refine ⟨L', t, false, s, t', rfl, ?_, g4, fun _ => hb, fun h => by cases h⟩
      split
      · rw [hb]; rfl
      · rfl
    | done q =>
      obtain ⟨t, L'⟩ := q
      obtain ⟨ks, a1, a2, a3, a4, a5⟩ := g2
      obtain ⟨ks', b1, b2, b3⟩ := g6
      simp only [List.nil_append] at a1 b1
      have hks : ks' = ks := by rw [a1] at b1; injection b1 with _ _ _ h; exact h.symm
      subst hks
      simp only at a1 a3 a4 b3
      subst a1
      have hnt : nT (GTerm.mk x.gCells[i].gKind x.gCells[i].gName x.gCells[i].gNum ks') = nsum nT ks' := by rw [nT, nTs_eq]
      have htok : (GTerm.mk x.gCells[i].gKind x.gCells[i].gName x.gCells[i].gNum ks').ok := .mk _ _ _ _ hcok.1 hcok.2.1 hcok.2.2.1 (by omega) a5
      have hgt : gT d (GTerm.mk x.gCells[i].gKind x.gCells[i].gName x.gCells[i].gNum ks') = (one (GTerm.mk x.gCells[i].gKind x.gCells[i].gName x.gCells[i].gNum ks') && gTs (d + 1) ks') := by
        rw [gT_eq, decide_eq_true (show d ≤ 40 by omega), Bool.true_and]; rfl
      cases hgs : gTs (d + 1) ks' with
      | false =>
        rw [hgs] at b2
        have hb : s.gBad = true := b2
        refine ⟨L', _, true, s, t', rfl, ?_, g4, fun h => (by cases h), fun _ => ⟨by omega, a3, by rw [hnt, a4]; omega, htok, by rw [hgt, hgs, hb]; simp, fun h => by rw [hgt, hgs] at h; simp at h⟩⟩
        split
        · rw [hb]; rfl
        · rfl
      | true =>
        obtain ⟨rfl, hleft⟩ := b3 hgs
        rw [hgs] at b2
        have hb : s.gBad = false := b2
        cases ho : one (GTerm.mk x.gCells[i].gKind x.gCells[i].gName x.gCells[i].gNum ks') with
        | false =>
          refine ⟨L', _, true, GL13Read.mk s.gCells s.gLeft true, GTerm.mk x.gCells[i].gKind x.gCells[i].gName x.gCells[i].gNum ks', rfl, ?_, g4, fun h => (by cases h), fun _ => ⟨by omega, a3, by rw [hnt, a4]; omega, htok, by rw [hgt, ho]; rfl, fun h => by rw [hgt, ho] at h; simp at h⟩⟩
          rw [hb]; rfl
        | true =>
          refine ⟨L', _, true, s, GTerm.mk x.gCells[i].gKind x.gCells[i].gName x.gCells[i].gNum ks', rfl, ?_, g4, fun h => (by cases h), fun _ => ⟨by omega, a3, by rw [hnt, a4]; omega, htok, by rw [hgt, ho, hgs, hb]; rfl, fun _ => ⟨rfl, hleft⟩⟩⟩
          rfl

theorem same {k : Nat} {x : GHeap} {a : Int} (hx : x.ok) (hn : nHeap x ≤ 1048576) (hk : maxLen + 1099511627776 < k) : ∃ p, pspec_TermAt k x a = some p ∧ pimpl_TermAt k x a = some p ∧ nT p.1 ≤ 1048576 := by
  have hb : ∀ m k : Nat, m + 1099511627776 < k → (m : Int) + 42 < (k : Int) + 1 := fun m k h => by omega
  have hM := maxLen_eq
  have hk' : maxLen < k := Nat.lt_of_le_of_lt (Nat.le_add_right _ _) hk
  have hn' : nsum nCell x.gCells + nsum (fun _ => 0) x.gTrail ≤ 1048576 := hn
  obtain ⟨bo, h1, h2, h3⟩ := heapOk hx hk'
  have z : nT ((GTerm.mk 0 (bs []) 0 [], false) : GTerm × Bool).1 ≤ 1048576 := by
    have : nT (GTerm.mk 0 (bs []) 0 []) = 0 := by rw [nT, nTs]
    show nT (GTerm.mk 0 (bs []) 0 []) ≤ _
    rw [this]; exact Nat.zero_le _
  unfold pspec_TermAt pimpl_TermAt
  simp only [h1, h2, Option.bind_some]
  cases bo with
  | false => simp only [Bool.not_false, if_true]; exact ⟨_, rfl, rfl, z⟩
  | true =>
    obtain ⟨hc, hR⟩ := h3 rfl
    obtain ⟨L', t, ok, s, t', e1, e2, r1, r2, r3⟩ := read hc (by omega) hx.1 (fun t h => (hR t (Nat.zero_le _) h).1) k a 1 400 (by omega) (by omega) (hb _ _ hk) (by omega) (by omega)
    unfold pspec_l13Term pimpl_rightAt
    simp only [Bool.not_true, Bool.false_eq_true, if_false, e1, e2, Option.bind_some, eta]
    cases ok with
    | false =>
      rw [r2 rfl]
      simp only [Bool.not_false, if_true, Option.bind_some, eta]
      exact ⟨_, rfl, rfl, z⟩
    | true =>
      obtain ⟨q0, q1, q2, q3, q4, q5⟩ := r3 rfl
      have hnt : 1 + nT t ≤ 400 := by omega
      have htk := impl_TermOk (k := k) (x := t) (by omega) q3
      have htok : tOk t = gT 1 t := by unfold tOk; rw [decide_eq_true hnt, Bool.true_and]
      simp only [Bool.not_true, Bool.false_eq_true, if_false, htk, Option.bind_some, htok]
      cases hg : gT 1 t with
      | false =>
        rw [hg] at q4
        rw [q4]
        simp only [Bool.not_false, if_true, Option.bind_some, eta]
        exact ⟨_, rfl, rfl, z⟩
      | true =>
        rw [hg] at q4
        obtain ⟨rfl, _⟩ := q5 hg
        rw [q4]
        simp only [Bool.not_true, Bool.false_eq_true, if_false, Option.bind_some, eta]
        exact ⟨_, rfl, rfl, by show nT t' ≤ _; omega⟩

theorem d_same : @pimpl_TermAt_d = @pimpl_TermAt := by kernel_rfl

theorem law (x : GHeap) (a : Int) (hx : x.ok) (ha : okI .i64 a) : ∃ k, plaws_FnExactTermAt k x a = some true := by
  obtain ⟨k, hk⟩ : ∃ k, maxLen + 4 * nHeap x + 1099511627776 < k := ⟨_, Nat.lt_succ_self _⟩
  refine ⟨k, ?_⟩
  have hm : maxLen = 9223372036854775807 := maxLen_eq
  have hH : Huge = 1152921504606846976 := rfl
  have hw : maxLen + 2 * nHeap x + 2 < k := by omega
  unfold plaws_FnExactTermAt
  obtain ⟨r, e1, h2, h3⟩ := szHeap (k := k) hw hx 1048576 (by omega) (by unfold Small; omega)
  rw [e1]
  simp only [Option.bind_some]
  by_cases hr : r < 0
  · rw [if_pos (by simpa using hr)]
  rw [if_neg (by simpa using hr)]
  have hn : nHeap x ≤ 1048576 := by omega
  have t0 := toHeap (k := k) hw hn
  have t1 : plaws_toHeap_d k x = some x := by rw [plaws_toHeap_dd]; exact t0
  obtain ⟨p, e2, e3, np⟩ := same (k := k) (a := a) hx hn (by omega)
  have e4 : pimpl_TermAt_d k x a = some p := by rw [d_same]; exact e3
  obtain ⟨u, c, a1, a4, a5⟩ := markHeap (k := k) (x := x) hw 1 (by omega) (by omega)
  obtain ⟨z, d, b1, b2, b3, b4, b5⟩ := markTerm (k := k) (x := p.1) (by omega) 1 (by omega) (by omega)
  have q1 := eqTerm (k := k) (x := p.1) (by omega) (by omega)
  have q2 := eqHeap (k := k) (x := x) hw (by omega)
  have hc : ∀ c : Int, 1 ≤ c → (decide (c < 0)) = false := fun c h => by simpa using (by omega : 0 ≤ c)
  simp only [t0, t1, e2, e3, e4, eta, q1, q2, a1, b1, b2, b3, hc c (by omega), hc d b4, Option.bind_some, Bool.not_true, Bool.false_eq_true, if_false, bne_self_eq_false, beq_self_eq_true]
end FnExactTermAt
end Go.Proofs.Ytgfpmdaihkdhkaa

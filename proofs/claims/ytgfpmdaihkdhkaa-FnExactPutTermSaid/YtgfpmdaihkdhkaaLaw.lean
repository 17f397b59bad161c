/- The law, plainly. -/
import Derived.Test.YtgfpmdaihkdhkaaFn
set_option linter.unusedVariables false
set_option linter.unusedSimpArgs false
namespace Go.Proofs.Ytgfpmdaihkdhkaa
open Go.RowKit Go.Bv
namespace FnExactPutTerm
/-- Room for the marks. -/
theorem markText_loop (k : Nat) : ∀ (j m : Nat) (b : Int) (e : ByteArray), j < m → 0 ≤ b → b < 2 ^ j → j ≤ 61 → e.size + j ≤ 1000 →
    ∃ s, plaws_markText_L1 k m b e = some (.done s) ∧ s.size ≤ 1000
  | j, 0, b, e, h1, _, _, _, _ => by omega
  | 0, m + 1, b, e, h1, h2, h3, h4, h5 => by
    unfold plaws_markText_L1
    rw [if_neg (by simp at h3 ⊢; omega)]
    exact ⟨e, rfl, by omega⟩
  | j + 1, m + 1, b, e, h1, h2, h3, h4, h5 => by
    unfold plaws_markText_L1
    by_cases hb : b > 0
    · have hp : (2 : Int) ^ (j + 1) = 2 * 2 ^ j := by rw [Int.pow_succ]; omega
      have hj : (2 : Int) ^ j ≤ 2 ^ 61 := by
        have : (2 : Nat) ^ j ≤ 2 ^ 61 := Nat.pow_le_pow_right (by omega) (by omega)
        exact_mod_cast this
      have hq : Int.tdiv b 10 = b / 10 := Int.tdiv_eq_ediv_of_nonneg h2
      have hs : (strOfNums [wr.u8 (wr.i64 (48 + (Int.tmod b 10)))]).size = 1 := rfl
      rw [if_pos (by simpa using hb), if_pos (by omega), if_pos (by unfold sumOk; rw [hs]; omega), if_pos (by omega), hq, wr_i64 (by omega) (by omega)]
      exact markText_loop k j m (b / 10) _ (by omega) (by omega) (by omega) (by omega) (by rw [ByteArray.size_append, hs]; omega)
    · rw [if_neg (by simpa using hb)]; exact ⟨e, rfl, by omega⟩

theorem markText {k : Nat} (hk : maxLen < k) (b : Int) (h0 : 0 ≤ b) (h1 : b ≤ Huge) : ∃ s, plaws_markText k b = some s := by
  unfold plaws_markText
  by_cases hb : b ≤ 0
  · rw [if_pos (by simpa using hb)]; exact ⟨_, rfl⟩
  · rw [if_neg (by simpa using hb)]
    rw [maxLen_eq] at hk
    have hH : Huge = 1152921504606846976 := rfl
    have hp : (2 : Int) ^ 61 = 2305843009213693952 := by decide
    obtain ⟨s, h2, h3⟩ := markText_loop k 61 k b (bs []) (by omega) h0 (by rw [hp]; omega) (by omega) (by have : (bs []).size = 0 := rfl; omega)
    rw [h2]
    simp only [Option.bind_some]
    rw [if_pos (by unfold sumOk; have : (bs [109]).size = 1 := rfl; omega)]
    exact ⟨_, rfl⟩
mutual
/-- How many terms stand in a term. -/
def nT : GTerm → Nat
  | .mk _ _ _ l => nTs l
def nTs : List GTerm → Nat
  | [] => 0
  | x :: l => 1 + nT x + nTs l
end
theorem nTs_eq : ∀ l : List GTerm, nTs l = nsum nT l
  | [] => by rw [nTs]; rfl
  | x :: l => by rw [nTs, nsum, nTs_eq l]
theorem nT_kids (x : GTerm) : nT x = nsum nT x.gKids := by
  cases x with
  | mk a b c l => rw [nT, nTs_eq]; rfl

theorem ok_kids {x : GTerm} (h : x.ok) : okL GTerm.ok x.gKids := by cases h with | mk a b c l h1 h2 h3 h4 h5 => exact ⟨h4, h5⟩
theorem ok_name {x : GTerm} (h : x.ok) : okFs x.gName := by cases h with | mk a b c l h1 h2 h3 h4 h5 => exact h2
theorem ok_kind {x : GTerm} (h : x.ok) : okI .i64 x.gKind := by cases h with | mk a b c l h1 h2 h3 h4 h5 => exact h1
theorem ok_num {x : GTerm} (h : x.ok) : okI .i64 x.gNum := by cases h with | mk a b c l h1 h2 h3 h4 h5 => exact h3

theorem mk_gKind (a : Int) (b : ByteArray) (c : Int) (l : List GTerm) : (GTerm.mk a b c l).gKind = a := rfl
theorem mk_gName (a : Int) (b : ByteArray) (c : Int) (l : List GTerm) : (GTerm.mk a b c l).gName = b := rfl
theorem mk_gNum (a : Int) (b : ByteArray) (c : Int) (l : List GTerm) : (GTerm.mk a b c l).gNum = c := rfl
theorem mk_gKids (a : Int) (b : ByteArray) (c : Int) (l : List GTerm) : (GTerm.mk a b c l).gKids = l := rfl
theorem szBoth : ∀ N k : Nat,
    (∀ l, maxLen + 2 * nsum nT l + 1 < k → nsum nT l ≤ N → okL GTerm.ok l → ∀ b : Int, 0 ≤ b → b ≤ Small → ∃ r, plaws_szTermS k l b = some r ∧ -1 ≤ r ∧ (0 ≤ r → r + (nsum nT l : Int) ≤ b)) ∧
    (∀ x, maxLen + 2 * nT x + 2 < k → nT x ≤ N → x.ok → ∀ b : Int, 0 ≤ b → b ≤ Small → ∃ r, plaws_szTerm k x b = some r ∧ -1 ≤ r ∧ (0 ≤ r → r + (nT x : Int) ≤ b))
  | N, 0 => ⟨fun l h => by omega, fun x h => by omega⟩
  | N, k + 1 => by
    obtain ⟨ih1, ih2⟩ := szBoth N k
    refine ⟨?_, ?_⟩
    · intro l hw hN hl b h0 h1
      exact sz2 (f := plaws_szTerm k) (L := plaws_szTermS_L1 k (plaws_szTerm k) (plaws_szTermS k) l) hl.1 (fun x hx b h0 h1 => by have := nsum_mem (n := nT) hx; exact ih2 x (by omega) (by omega) (hl.2 x hx) b h0 h1) (fun m b i => rfl) (by omega) b h0 h1
    · intro x hw hN hx b h0 h1
      have hn := ok_name hx
      unfold okFs at hn
      have h1' := h1
      unfold Small at h1'
      rw [maxLen_eq] at hn
      have hk := nT_kids x
      unfold plaws_szTerm
      rw [wr_i64 (by omega) (by omega)]
      split
      · exact ⟨_, rfl, by omega, by omega⟩
      · rename_i h
        simp at h
        obtain ⟨r, h2, h3, h4⟩ := ih1 x.gKids (by omega) (by omega) (ok_kids hx) (b - (x.gName.size : Int)) (by omega) (by unfold Small; omega)
        rw [h2]
        simp only [Option.bind_some]
        split
        · exact ⟨_, rfl, by omega, by omega⟩
        · exact ⟨_, rfl, h3, by omega⟩
theorem szTermS {k : Nat} {l : List GTerm} (hw : maxLen + 2 * nsum nT l + 2 < k) (hl : okL GTerm.ok l) (b : Int) (h0 : 0 ≤ b) (h1 : b ≤ Small) : ∃ r, plaws_szTermS k l b = some r ∧ -1 ≤ r ∧ (0 ≤ r → r + (nsum nT l : Int) ≤ b) :=
  (szBoth (nsum nT l) k).1 l (by omega) (Nat.le_refl _) hl b h0 h1
theorem szTerm {k : Nat} {x : GTerm} (hw : maxLen + 2 * nT x + 2 < k) (hx : x.ok) (b : Int) (h0 : 0 ≤ b) (h1 : b ≤ Small) : ∃ r, plaws_szTerm k x b = some r ∧ -1 ≤ r ∧ (0 ≤ r → r + (nT x : Int) ≤ b) :=
  (szBoth (nT x) k).2 x hw (Nat.le_refl _) hx b h0 h1

theorem toBoth : ∀ k : Nat, (∀ l, maxLen + 2 * nsum nT l + 1 < k → nsum nT l ≤ 1048576 → plaws_toTermS k l = some l) ∧ (∀ x, maxLen + 2 * nT x + 2 < k → nT x ≤ 1048576 → plaws_toTerm k x = some x)
  | 0 => ⟨fun l h => by omega, fun x h => by omega⟩
  | k + 1 => by
    obtain ⟨ih1, ih2⟩ := toBoth k
    refine ⟨?_, ?_⟩
    · intro l hw hl
      have := nsum_len nT l
      have h := to2 (f := plaws_toTerm k) (L := plaws_toTermS_L1 k (plaws_toTerm k) (plaws_toTermS k) l) (by omega) (fun x hx => by have := nsum_mem (n := nT) hx; exact ih2 x (by omega) (by omega)) (fun m i o => rfl) (k := k) (by omega) (GTerm.mk 0 (bs []) 0 [])
      unfold plaws_toTermS
      rw [if_pos h.1, h.2]; rfl
    · intro x hw hx
      have hk := nT_kids x
      unfold plaws_toTerm
      rw [ih1 x.gKids (by omega) (by omega)]
      cases x; rfl
theorem toTermS {k : Nat} {l : List GTerm} (hw : maxLen + 2 * nsum nT l + 2 < k) (hl : nsum nT l ≤ 1048576) : plaws_toTermS k l = some l := (toBoth k).1 l (by omega) hl
theorem toTerm {k : Nat} {x : GTerm} (hw : maxLen + 2 * nT x + 2 < k) (hl : nT x ≤ 1048576) : plaws_toTerm k x = some x := (toBoth k).2 x hw hl

theorem eqBoth : ∀ k : Nat, (∀ l, maxLen + 2 * nsum nT l + 1 < k → nsum nT l ≤ Huge → plaws_eqTermS k l l = some true) ∧ (∀ x, maxLen + 2 * nT x + 2 < k → nT x ≤ Huge → plaws_eqTerm k x x = some true)
  | 0 => ⟨fun l h => by omega, fun x h => by omega⟩
  | k + 1 => by
    obtain ⟨ih1, ih2⟩ := eqBoth k
    refine ⟨?_, ?_⟩
    · intro l hw hl
      have := nsum_len nT l
      exact eq2 (f := plaws_eqTerm k) (L := plaws_eqTermS_L1 k (plaws_eqTerm k) (plaws_eqTermS k) l l) (by omega) (fun x hx => by have := nsum_mem (n := nT) hx; exact ih2 x (by omega) (by omega)) (fun m i => rfl) (by omega)
    · intro x hw hx
      have hk := nT_kids x
      unfold plaws_eqTerm
      rw [ih1 x.gKids (by omega) (by omega)]
      simp [sEq_refl]
theorem eqTermS {k : Nat} {l : List GTerm} (hw : maxLen + 2 * nsum nT l + 2 < k) (hl : nsum nT l ≤ Huge) : plaws_eqTermS k l l = some true := (eqBoth k).1 l (by omega) hl
theorem eqTerm {k : Nat} {x : GTerm} (hw : maxLen + 2 * nT x + 2 < k) (hl : nT x ≤ Huge) : plaws_eqTerm k x x = some true := (eqBoth k).2 x hw hl
theorem markTermS1 : ∀ (k : Nat) (l : List GTerm), maxLen + 2 * nsum nT l + 1 < k → ∀ b : Int, 1 ≤ b → b + 16 * (nsum nT l : Int) ≤ Huge →
    ∃ l' c, plaws_markTermS k l b = some (l', c) ∧ b ≤ c ∧ c ≤ b + 16 * (nsum nT l : Int)
  | 0, l, h => by omega
  | k + 1, l, hw => by
    intro b h1 h2
    have hH : Huge = 1152921504606846976 := rfl
    have key := mark1 (n := nT) (ok := fun x => maxLen + 2 * nT x + 1 < k)
      (L := plaws_markTermS_L1 k (plaws_markTermS k))
      (fun m b l => by unfold plaws_markTermS_L1; rw [if_neg (by simp)])
      (fun m b j l x hx hj hat h1 h2 => by
        have hk := nT_kids x
        obtain ⟨s, hs⟩ := markText (k := k) (by omega) (b + 1) (by omega) (by omega)
        obtain ⟨l', c, e1, e3, e4⟩ := markTermS1 k x.gKids (by omega) (b + 3) (by omega) (by omega)
        refine ⟨.mk b s (b + 2) l', c, (by omega), (by omega), fun hlt => ?_⟩
        have w1 : wr.i64 (b + 1) = b + 1 := by have := wr_i64 (x := b + 1) (by omega) (by omega); omega
        have w2 : wr.i64 (b + 1 + 1) = b + 2 := by have := wr_i64 (x := b + 1 + 1) (by omega) (by omega); omega
        have w3 : wr.i64 (b + 2 + 1) = b + 3 := by have := wr_i64 (x := b + 2 + 1) (by omega) (by omega); omega
        have hset : ∀ (l : List GTerm) (y z : GTerm), at' l (j : Int) = some y → at' (l.set ((j : Int)).toNat z) (j : Int) = some z := fun l y z h => at_is h
        rw [plaws_markTermS_L1, if_pos (by simpa using hlt), hat]
        simp only [Option.bind_some, w1, w2, w3, hs]
        rw [hset _ _ _ hat]
        simp only [Option.bind_some]
        rw [hset _ _ _ (hset _ _ _ hat)]
        simp only [Option.bind_some]
        rw [hset _ _ _ (hset _ _ _ (hset _ _ _ hat))]
        simp only [Option.bind_some, mk_gKids, mk_gKind, mk_gName, mk_gNum]
        simp only [e1, Option.bind_some, cast_succ hj, List.set_set, Int.toNat_natCast])
      (k := k) (by omega) l (fun x hx => by have := nsum_mem (n := nT) hx; omega) b h1 h2
    obtain ⟨l', c, e1, e3, e4⟩ := key
    refine ⟨l', c, ?_, e3, e4⟩
    unfold plaws_markTermS; rw [e1]; rfl
theorem markTermS {k : Nat} {l : List GTerm} (hw : maxLen + 2 * nsum nT l + 2 < k) (b : Int) (h1 : 1 ≤ b) (h2 : b + 16 * (nsum nT l : Int) ≤ Huge) :
    ∃ l' c, plaws_markTermS k l b = some (l', c) ∧ b ≤ c ∧ c ≤ b + 16 * (nsum nT l : Int) := markTermS1 k l (by omega) b h1 h2
theorem markTerm {k : Nat} {x : GTerm} (hw : maxLen + 2 * nT x + 2 < k) (b : Int) (h1 : 1 ≤ b) (h2 : b + 16 * (nT x : Int) ≤ Huge) :
    ∃ y c, plaws_markTerm k x b = some (y, c) ∧ b ≤ c ∧ c ≤ b + 16 * (nT x : Int) := by
  have hk := nT_kids x
  obtain ⟨l', c, e1, e3, e4⟩ := markTermS (k := k) (l := x.gKids) (by omega) b h1 (by omega)
  refine ⟨.mk x.gKind x.gName x.gNum l', c, ?_, e3, by omega⟩
  unfold plaws_markTerm; rw [e1]; rfl
theorem plaws_toTermS_dd : @plaws_toTermS_d = @plaws_toTermS := by kernel_rfl

theorem plaws_toTerm_dd : @plaws_toTerm_d = @plaws_toTerm := by kernel_rfl

theorem szIntS {k : Nat} {l : List Int} (hw : maxLen + 2 * (nsum (fun _ => 0) l) + 2 < k) (hl : okL (okI .i64) l) (b : Int) (h0 : 0 ≤ b) (h1 : b ≤ Small) : ∃ r, plaws_szIntS k l b = some r ∧ -1 ≤ r ∧ (0 ≤ r → r + (nsum (fun _ => 0) l : Int) ≤ b) := by
  unfold plaws_szIntS; exact sz2_flat hl.1 b h0 h1

theorem toIntS {k : Nat} {l : List Int} (hw : maxLen + 2 * (nsum (fun _ => 0) l) + 2 < k) (hl : nsum (fun _ => 0) l ≤ 1048576) : plaws_toIntS k l = some l := by
  have := nsum_len (fun _ => 0) l
  have h := to2_flat (L := plaws_toIntS_L1 k l) (by omega) (fun m i o => rfl) (k := k) (by omega) 0
  unfold plaws_toIntS
  rw [if_pos h.1, h.2]; rfl

theorem plaws_toIntS_dd : @plaws_toIntS_d = @plaws_toIntS := by kernel_rfl

theorem eqIntS {k : Nat} {l : List Int} (hw : maxLen + 2 * (nsum (fun _ => 0) l) + 2 < k) (hl : nsum (fun _ => 0) l ≤ Huge) : plaws_eqIntS k l l = some true := by
  have := nsum_len (fun _ => 0) l
  exact eq2_flat (ne := fun x y => x != y) (L := plaws_eqIntS_L1 k l l) (by omega) (fun x => by simp [sEq_refl]) (fun m i => rfl) (k := k) (by omega)

theorem markIntS {k : Nat} {l : List Int} (hw : maxLen + 2 * (nsum (fun _ => 0) l) + 2 < k) (b : Int) (h1 : 1 ≤ b) (h2 : b + 16 * (nsum (fun _ => 0) l : Int) ≤ Huge) :
    ∃ l' c, plaws_markIntS k l b = some (l', c) ∧ plaws_heldIntS k l' b = some c ∧ b ≤ c ∧ c ≤ b + 16 * (nsum (fun _ => 0) l : Int) := by
  have hm : maxLen = 9223372036854775807 := maxLen_eq
  have hH : Huge = 1152921504606846976 := rfl
  have h3 : (if (3 : Int) ≠ 0 then True else False) = True := by decide
  have hlen := nsum_len (fun _ => 0) l
  have key := mark2 (n := (fun _ => 0)) (ok := fun x => maxLen + 2 * 0 + 2 < k)
    (good := fun b x c => 1 ≤ b ∧ c ≤ Huge ∧ c = (b + 1) ∧ x = b)
    (L := plaws_markIntS_L1 k) (H := plaws_heldIntS_L1 k)
    (fun m b l => by unfold plaws_markIntS_L1; rw [if_neg (by simp)])
    (fun m b j l x hx hj hat h1 h2 => by
      skip
      refine ⟨b, (b + 1), ⟨h1, (by omega), rfl, rfl⟩, (by omega), (by omega), fun hlt => ?_⟩
      have w0 : wr.i64 (b + 1) = b + 1 := by have := wr_i64 (x := b + 1) (by omega) (by omega); omega
      have hat' : (at' l (j : Int)).isSome = true := by rw [hat]; rfl
      rw [plaws_markIntS_L1, if_pos (by simpa using hlt)]
      simp only [hat, hat', Option.isSome_some, Option.bind_some, w0, at_set, at_set_some, cast_succ hj, List.set_set, Int.toNat_natCast, if3])
    (fun l m b => by unfold plaws_heldIntS_L1; rw [if_neg (by simp)])
    (fun l m b c j x hj hat hg hlt => by
      obtain ⟨g1, g2, g3, k0⟩ := hg
      have w0 : wr.i64 (b + 1) = b + 1 := by have := wr_i64 (x := b + 1) (by omega) (by omega); omega
      have hc : ∀ c : Int, 1 ≤ c → (decide (c < 0)) = false := fun c h => by simpa using (by omega : 0 ≤ c)
      rw [plaws_heldIntS_L1, if_pos (by simpa using hlt)]
      simp only [hat, Option.bind_some, w0, k0, bne_self_eq_false, beq_self_eq_true, sEq_refl, Bool.not_true, Bool.false_eq_true, if_false, cast_succ hj, if3, g3])
    (k := k) (by omega) l (fun x hx => by have := nsum_mem (n := (fun _ => 0)) hx; omega) b h1 h2
  obtain ⟨l', c, e1, e2, e3, e4⟩ := key
  refine ⟨l', c, ?_, ?_, e3, e4⟩
  · unfold plaws_markIntS; rw [e1]; rfl
  · unfold plaws_heldIntS; rw [e2]; rfl

def nCell (x : GCell) : Nat := nsum (fun _ => 0) x.gKids

theorem szCell {k : Nat} {x : GCell} (hw : maxLen + 2 * (nCell x) + 2 < k) (hx : x.ok) (b : Int) (h0 : 0 ≤ b) (h1 : b ≤ Small) : ∃ r, plaws_szCell k x b = some r ∧ -1 ≤ r ∧ (0 ≤ r → r + (nCell x : Int) ≤ b) := by
  unfold nCell at *
  unfold plaws_szCell
  have hS : Small = 1048576 := rfl
  have hs1 : x.gName.size ≤ 9223372036854775807 := by have := hx.2.1; unfold okFs at this; rw [maxLen_eq] at this; exact this
  have hr1 : wr.i64 (b - (x.gName.size : Int)) = (b - (x.gName.size : Int)) := wr_i64 (by omega) (by omega)
  rw [hr1]
  by_cases c1 : (b - (x.gName.size : Int)) < 0
  · rw [if_pos (by simpa using c1)]; exact ⟨_, rfl, by omega, by omega⟩
  rw [if_neg (by simpa using c1)]
  obtain ⟨r2, e2, l2, u2⟩ := szIntS (k := k) (l := x.gKids) (by omega) hx.2.2.2.2 (b - (x.gName.size : Int)) (by omega) (by omega)
  rw [e2]
  simp only [Option.bind_some]
  by_cases c2 : r2 < 0
  · rw [if_pos (by simpa using c2)]; exact ⟨_, rfl, by omega, by omega⟩
  rw [if_neg (by simpa using c2)]
  exact ⟨_, rfl, by omega, fun h => by omega⟩

theorem toCell {k : Nat} {x : GCell} (hw : maxLen + 2 * (nCell x) + 2 < k) (hx : nCell x ≤ 1048576) : plaws_toCell k x = some x := by
  unfold nCell at *
  unfold plaws_toCell
  rw [toIntS (k := k) (l := x.gKids) (by omega) (by omega)]
  simp only [Option.bind_some]

theorem plaws_toCell_dd : @plaws_toCell_d = @plaws_toCell := by kernel_rfl

theorem eqCell {k : Nat} {x : GCell} (hw : maxLen + 2 * (nCell x) + 2 < k) (hx : nCell x ≤ Huge) : plaws_eqCell k x x = some true := by
  unfold nCell at *
  unfold plaws_eqCell
  rw [eqIntS (k := k) (l := x.gKids) (by omega) (by omega)]
  simp [sEq_refl]

theorem szCellS {k : Nat} {l : List GCell} (hw : maxLen + 2 * (nsum nCell l) + 2 < k) (hl : okL (GCell.ok) l) (b : Int) (h0 : 0 ≤ b) (h1 : b ≤ Small) : ∃ r, plaws_szCellS k l b = some r ∧ -1 ≤ r ∧ (0 ≤ r → r + (nsum nCell l : Int) ≤ b) := by
  exact sz2 (f := plaws_szCell k) (L := plaws_szCellS_L1 k l) hl.1 (fun x hx b h0 h1 => by have := nsum_mem (n := nCell) hx; exact szCell (by omega) (hl.2 x hx) b h0 h1) (fun m b i => rfl) (by omega) b h0 h1

theorem toCellS {k : Nat} {l : List GCell} (hw : maxLen + 2 * (nsum nCell l) + 2 < k) (hl : nsum nCell l ≤ 1048576) : plaws_toCellS k l = some l := by
  have := nsum_len nCell l
  have h := to2 (f := plaws_toCell k) (L := plaws_toCellS_L1 k l) (by omega) (fun x hx => by have := nsum_mem (n := nCell) hx; exact toCell (by omega) (by omega)) (fun m i o => rfl) (k := k) (by omega) (GCell.mk 0 (bs []) 0 0 [])
  unfold plaws_toCellS
  rw [if_pos h.1, h.2]; rfl

theorem plaws_toCellS_dd : @plaws_toCellS_d = @plaws_toCellS := by kernel_rfl

theorem eqCellS {k : Nat} {l : List GCell} (hw : maxLen + 2 * (nsum nCell l) + 2 < k) (hl : nsum nCell l ≤ Huge) : plaws_eqCellS k l l = some true := by
  have := nsum_len nCell l
  exact eq2 (f := plaws_eqCell k) (L := plaws_eqCellS_L1 k l l) (by omega) (fun x hx => by have := nsum_mem (n := nCell) hx; exact eqCell (by omega) (by omega)) (fun m i => rfl) (k := k) (by omega)

theorem markCellS {k : Nat} {l : List GCell} (hw : maxLen + 2 * (nsum nCell l) + 2 < k) (b : Int) (h1 : 1 ≤ b) (h2 : b + 16 * (nsum nCell l : Int) ≤ Huge) :
    ∃ l' c, plaws_markCellS k l b = some (l', c) ∧ plaws_heldCellS k l' b = some c ∧ b ≤ c ∧ c ≤ b + 16 * (nsum nCell l : Int) := by
  have hm : maxLen = 9223372036854775807 := maxLen_eq
  have hH : Huge = 1152921504606846976 := rfl
  have h3 : (if (3 : Int) ≠ 0 then True else False) = True := by decide
  have hlen := nsum_len nCell l
  have key := mark2 (n := nCell) (ok := fun x => maxLen + 2 * (nCell x) + 2 < k)
    (good := fun b x c => ∃ c0 : Int, 1 ≤ b ∧ c ≤ Huge ∧ c = c0 ∧ x.gKind = b ∧ plaws_markText k (b + 1) = some x.gName ∧ x.gNum = (b + 2) ∧ x.gTo = (b + 3) ∧ plaws_heldIntS k x.gKids (b + 4) = some c0 ∧ (b + 4) ≤ c0)
    (L := plaws_markCellS_L1 k) (H := plaws_heldCellS_L1 k)
    (fun m b l => by unfold plaws_markCellS_L1; rw [if_neg (by simp)])
    (fun m b j l x hx hj hat h1 h2 => by
      try unfold nCell at *
      obtain ⟨s1, t1⟩ := markText (k := k) (by omega) (b + 1) (by omega) (by omega)
      obtain ⟨y0, c0, e0, f0, l0, u0⟩ := markIntS (k := k) (l := x.gKids) (by omega) (b + 4) (by omega) (by omega)
      refine ⟨(GCell.mk b s1 (b + 2) (b + 3) y0), c0, ⟨c0, h1, (by omega), rfl, rfl, t1, rfl, rfl, f0, (by omega)⟩, (by omega), (by omega), fun hlt => ?_⟩
      have w0 : wr.i64 (b + 1) = b + 1 := by have := wr_i64 (x := b + 1) (by omega) (by omega); omega
      have w1 : wr.i64 (b + 1 + 1) = b + 2 := by have := wr_i64 (x := b + 1 + 1) (by omega) (by omega); omega
      have w2 : wr.i64 (b + 2 + 1) = b + 3 := by have := wr_i64 (x := b + 2 + 1) (by omega) (by omega); omega
      have w3 : wr.i64 (b + 3 + 1) = b + 4 := by have := wr_i64 (x := b + 3 + 1) (by omega) (by omega); omega
      have hat' : (at' l (j : Int)).isSome = true := by rw [hat]; rfl
      rw [plaws_markCellS_L1, if_pos (by simpa using hlt)]
      simp only [hat, hat', Option.isSome_some, Option.bind_some, w0, w1, w2, w3, t1, e0, at_set, at_set_some, cast_succ hj, List.set_set, Int.toNat_natCast, if3])
    (fun l m b => by unfold plaws_heldCellS_L1; rw [if_neg (by simp)])
    (fun l m b c j x hj hat hg hlt => by
      obtain ⟨c0, g1, g2, g3, k0, k1, k2, k3, k4, m4⟩ := hg
      have w0 : wr.i64 (b + 1) = b + 1 := by have := wr_i64 (x := b + 1) (by omega) (by omega); omega
      have w1 : wr.i64 (b + 1 + 1) = b + 2 := by have := wr_i64 (x := b + 1 + 1) (by omega) (by omega); omega
      have w2 : wr.i64 (b + 2 + 1) = b + 3 := by have := wr_i64 (x := b + 2 + 1) (by omega) (by omega); omega
      have w3 : wr.i64 (b + 3 + 1) = b + 4 := by have := wr_i64 (x := b + 3 + 1) (by omega) (by omega); omega
      have hc : ∀ c : Int, 1 ≤ c → (decide (c < 0)) = false := fun c h => by simpa using (by omega : 0 ≤ c)
      rw [plaws_heldCellS_L1, if_pos (by simpa using hlt)]
      simp only [hat, Option.bind_some, w0, w1, w2, w3, k0, k1, k2, k3, k4, bne_self_eq_false, beq_self_eq_true, sEq_refl, Bool.not_true, Bool.false_eq_true, if_false, cast_succ hj, if3, g3, hc c0 (by omega)])
    (k := k) (by omega) l (fun x hx => by have := nsum_mem (n := nCell) hx; omega) b h1 h2
  obtain ⟨l', c, e1, e2, e3, e4⟩ := key
  refine ⟨l', c, ?_, ?_, e3, e4⟩
  · unfold plaws_markCellS; rw [e1]; rfl
  · unfold plaws_heldCellS; rw [e2]; rfl

def nHeap (x : GHeap) : Nat := nsum nCell x.gCells + nsum (fun _ => 0) x.gTrail

theorem szHeap {k : Nat} {x : GHeap} (hw : maxLen + 2 * (nHeap x) + 2 < k) (hx : x.ok) (b : Int) (h0 : 0 ≤ b) (h1 : b ≤ Small) : ∃ r, plaws_szHeap k x b = some r ∧ -1 ≤ r ∧ (0 ≤ r → r + (nHeap x : Int) ≤ b) := by
  unfold nHeap at *
  unfold plaws_szHeap
  have hS : Small = 1048576 := rfl
  obtain ⟨r1, e1, l1, u1⟩ := szCellS (k := k) (l := x.gCells) (by omega) hx.1 b h0 (by omega)
  rw [e1]
  simp only [Option.bind_some]
  by_cases c1 : r1 < 0
  · rw [if_pos (by simpa using c1)]; exact ⟨_, rfl, by omega, by omega⟩
  rw [if_neg (by simpa using c1)]
  obtain ⟨r2, e2, l2, u2⟩ := szIntS (k := k) (l := x.gTrail) (by omega) hx.2 r1 (by omega) (by omega)
  rw [e2]
  simp only [Option.bind_some]
  by_cases c2 : r2 < 0
  · rw [if_pos (by simpa using c2)]; exact ⟨_, rfl, by omega, by omega⟩
  rw [if_neg (by simpa using c2)]
  exact ⟨_, rfl, by omega, fun h => by omega⟩

theorem toHeap {k : Nat} {x : GHeap} (hw : maxLen + 2 * (nHeap x) + 2 < k) (hx : nHeap x ≤ 1048576) : plaws_toHeap k x = some x := by
  unfold nHeap at *
  unfold plaws_toHeap
  rw [toCellS (k := k) (l := x.gCells) (by omega) (by omega)]
  simp only [Option.bind_some]
  rw [toIntS (k := k) (l := x.gTrail) (by omega) (by omega)]
  simp only [Option.bind_some]

theorem plaws_toHeap_dd : @plaws_toHeap_d = @plaws_toHeap := by kernel_rfl

theorem eqHeap {k : Nat} {x : GHeap} (hw : maxLen + 2 * (nHeap x) + 2 < k) (hx : nHeap x ≤ Huge) : plaws_eqHeap k x x = some true := by
  unfold nHeap at *
  unfold plaws_eqHeap
  rw [eqCellS (k := k) (l := x.gCells) (by omega) (by omega)]
  rw [eqIntS (k := k) (l := x.gTrail) (by omega) (by omega)]
  simp [sEq_refl]

theorem markHeap {k : Nat} {x : GHeap} (hw : maxLen + 2 * (nHeap x) + 2 < k) (b : Int) (h1 : 1 ≤ b) (h2 : b + 16 * (nHeap x : Int) ≤ Huge) :
    ∃ y c, plaws_markHeap k x b = some (y, c) ∧ plaws_heldHeap k (GHeap.mk y.gCells y.gTrail) b = some c ∧ plaws_heldHeap k y b = some c ∧ b ≤ c ∧ c ≤ b + 16 * (nHeap x : Int) := by
  unfold nHeap at *
  obtain ⟨y0, c0, e0, f0, l0, u0⟩ := markCellS (k := k) (l := x.gCells) (by omega) b (by omega) (by omega)
  obtain ⟨y1, c1, e1, f1, l1, u1⟩ := markIntS (k := k) (l := x.gTrail) (by omega) c0 (by omega) (by omega)
  have hc : ∀ c : Int, 1 ≤ c → (decide (c < 0)) = false := fun c h => by simpa using (by omega : 0 ≤ c)
  refine ⟨GHeap.mk y0 y1, c1, ?_, ?_, ?_, (by omega), (by omega)⟩
  · unfold plaws_markHeap; simp only [e0, e1, Option.bind_some, mk_gKids]
  · unfold plaws_heldHeap; simp only [f0, f1, Option.bind_some, hc c0 (by omega), hc c1 (by omega), Bool.false_eq_true, if_false, mk_gKids]
  · unfold plaws_heldHeap; simp only [f0, f1, Option.bind_some, hc c0 (by omega), hc c1 (by omega), Bool.false_eq_true, if_false, mk_gKids]
/-- Is it within these bounds? -/
def inR (x a b : Int) : Bool := decide (a ≤ x ∧ x ≤ b)
theorem inR_t {x a b : Int} (h : a ≤ x ∧ x ≤ b) : inR x a b = true := decide_eq_true h
theorem inR_f {x a b : Int} (h : ¬ (a ≤ x ∧ x ≤ b)) : inR x a b = false := decide_eq_false h

theorem l01In (k : Nat) (x a b : Int) : pspec_l01In k x a b = some (inR x a b) := by
  unfold pspec_l01In inR
  by_cases h : a ≤ x
  · rw [if_pos (by simpa using h)]; simp [h]
  · rw [if_neg (by simpa using h)]; simp [h]

theorem within (k : Nat) (x a b : Int) : pimpl_within k x a b = some (inR x a b) := by
  unfold pimpl_within inR
  by_cases h : a ≤ x
  · rw [if_pos (by simpa using h)]; simp [h]
  · rw [if_neg (by simpa using h)]; simp [h]
theorem l01InD (k : Nat) (x a b : Int) : pspec_l01In k x a b = some (decide (a ≤ x ∧ x ≤ b)) := l01In k x a b
theorem withinD (k : Nat) (x a b : Int) : pimpl_within k x a b = some (decide (a ≤ x ∧ x ≤ b)) := within k x a b
theorem bt_le (s : ByteArray) (i : Int) : 0 ≤ bt s i ∧ bt s i ≤ 255 := by
  unfold bt
  have : ((s[i.toNat]?).getD 0).toNat < 256 := ((s[i.toNat]?).getD 0).toNat_lt
  omega
/-- A byte that a name may have. -/
def gb (s : ByteArray) (i : Nat) : Prop := 33 ≤ bt s (i : Int) ∧ bt s (i : Int) ≤ 126 ∧ bt s (i : Int) ≠ 39 ∧ bt s (i : Int) ≠ 34
instance (s : ByteArray) (i : Nat) : Decidable (gb s i) := by unfold gb; infer_instance
/-- A name. -/
def nmOk (s : ByteArray) : Prop := (∀ i, i < s.size → gb s i) ∧ 1 ≤ s.size ∧ s.size ≤ 20
instance (s : ByteArray) : Decidable (nmOk s) := by unfold nmOk; infer_instance

theorem l03Name_L1 (k : Nat) (s : ByteArray) (hs : s.size ≤ maxLen) : ∀ (m n : Nat), n ≤ s.size → s.size - n < m →
    ∃ o, pspec_l03Name_L1 k s m (n : Int) = some o ∧ (match o with | .ret r => r = false ∧ ∃ i, i < s.size ∧ ¬ gb s i | .done _ => ∀ i, n ≤ i → i < s.size → gb s i)
  | 0, n, h1, h2 => by omega
  | m + 1, n, h1, h2 => by
    unfold pspec_l03Name_L1
    by_cases hlt : n < s.size
    · have hg : 0 ≤ (n : Int) ∧ (n : Int).toNat < s.size := ⟨by omega, by simpa using hlt⟩
      have bad : ∀ b : Prop, (gb s n → ¬ b) → b → ∃ o, (some (Out.ret false) : Option (Out Bool Unit)) = some o ∧ (match o with | .ret r => r = false ∧ ∃ i, i < s.size ∧ ¬ gb s i | .done _ => ∀ i, n ≤ i → i < s.size → gb s i) :=
        fun b h hb => ⟨_, rfl, rfl, n, hlt, fun h' => h h' hb⟩
      rw [if_pos (by simpa using hlt), if_pos hg]
      by_cases c1 : bt s (n : Int) < 33
      · rw [if_pos (by simpa using c1)]; exact bad _ (fun h => by have := h.1; omega) c1
      rw [if_neg (by simpa using c1), if_pos hg]
      by_cases c2 : bt s (n : Int) > 126
      · rw [if_pos (by simpa using c2)]; exact bad _ (fun h => by have := h.2.1; omega) c2
      rw [if_neg (by simpa using c2), if_pos hg]
      by_cases c3 : bt s (n : Int) = 39
      · rw [if_pos (by simpa using c3)]; exact bad _ (fun h => h.2.2.1) c3
      rw [if_neg (by simpa using c3), if_pos hg]
      by_cases c4 : bt s (n : Int) = 34
      · rw [if_pos (by simpa using c4)]; exact bad _ (fun h => h.2.2.2) c4
      rw [if_neg (by simpa using c4), wr_succ hlt hs]
      obtain ⟨o, h3, h4⟩ := l03Name_L1 k s hs m (n + 1) (by omega) (by omega)
      refine ⟨o, h3, ?_⟩
      cases o with
      | ret r => exact h4
      | done u =>
        intro i hi1 hi2
        by_cases e : i = n
        · subst e; exact ⟨by omega, by omega, c3, c4⟩
        · exact h4 i (by omega) hi2
    · rw [if_neg (by simpa using hlt)]
      exact ⟨_, rfl, fun i h3 h4 => by omega⟩

theorem nameOk_L1 (k : Nat) (s : ByteArray) (hs : s.size ≤ maxLen) : ∀ (m n : Nat), n ≤ s.size → s.size - n < m →
    ∃ o, pimpl_nameOk_L1 k s m (n : Int) = some o ∧ (match o with | .ret r => r = false ∧ ∃ i, i < s.size ∧ ¬ gb s i | .done _ => ∀ i, n ≤ i → i < s.size → gb s i)
  | 0, n, h1, h2 => by omega
  | m + 1, n, h1, h2 => by
    unfold pimpl_nameOk_L1
    by_cases hlt : n < s.size
    · have hg : 0 ≤ (n : Int) ∧ (n : Int).toNat < s.size := ⟨by omega, by simpa using hlt⟩
      have hb := bt_le s (n : Int)
      have bad : ∀ b : Prop, (gb s n → ¬ b) → b → ∃ o, (some (Out.ret false) : Option (Out Bool Unit)) = some o ∧ (match o with | .ret r => r = false ∧ ∃ i, i < s.size ∧ ¬ gb s i | .done _ => ∀ i, n ≤ i → i < s.size → gb s i) :=
        fun b h hb => ⟨_, rfl, rfl, n, hlt, fun h' => h h' hb⟩
      rw [if_pos (by simpa using hlt), if_pos hg, within, wr_i64 (by omega) (by omega)]
      simp only [Option.bind_some]
      by_cases c1 : 33 ≤ bt s (n : Int) ∧ bt s (n : Int) ≤ 126
      · rw [inR_t c1, if_neg (by simp), if_pos hg]
        by_cases c3 : bt s (n : Int) = 39
        · rw [if_pos (by simpa using c3)]; exact bad _ (fun h => h.2.2.1) c3
        rw [if_neg (by simpa using c3), if_pos hg]
        by_cases c4 : bt s (n : Int) = 34
        · rw [if_pos (by simpa using c4)]; exact bad _ (fun h => h.2.2.2) c4
        rw [if_neg (by simpa using c4), wr_succ hlt hs]
        obtain ⟨o, h3, h4⟩ := nameOk_L1 k s hs m (n + 1) (by omega) (by omega)
        refine ⟨o, h3, ?_⟩
        cases o with
        | ret r => exact h4
        | done u =>
          intro i hi1 hi2
          by_cases e : i = n
          · subst e; exact ⟨by omega, by omega, c3, c4⟩
          · exact h4 i (by omega) hi2
      · rw [inR_f c1, if_pos (by simp)]
        exact bad _ (fun h => by have := h.1; have := h.2.1; omega) c1
    · rw [if_neg (by simpa using hlt)]
      exact ⟨_, rfl, fun i h3 h4 => by omega⟩

theorem nm_of {s : ByteArray} (h : ∀ i, 0 ≤ i → i < s.size → gb s i) : inR (s.size : Int) 1 20 = decide (nmOk s) := by
  unfold inR
  rw [decide_eq_decide]
  unfold nmOk
  constructor
  · intro h1; exact ⟨fun i hi => h i (by omega) hi, by omega, by omega⟩
  · intro h1; obtain ⟨_, h5, h6⟩ := h1; omega

theorem l03Name {k : Nat} {s : ByteArray} (hs : s.size ≤ maxLen) (hk : maxLen < k) : pspec_l03Name k s = some (decide (nmOk s)) := by
  unfold pspec_l03Name
  obtain ⟨o, h1, h2⟩ := l03Name_L1 k s hs k 0 (by omega) (by omega)
  rw [show ((0 : Nat) : Int) = 0 from rfl] at h1
  rw [h1]
  cases o with
  | ret r =>
    obtain ⟨rfl, i, h3, h4⟩ := h2
    have : ¬ nmOk s := fun h => h4 (h.1 i h3)
    simp [this]
  | done u =>
    simp only [Option.bind_some]
    rw [l01In]
    simp only [Option.bind_some]
    rw [nm_of h2]

theorem nameOk {k : Nat} {s : ByteArray} (hs : s.size ≤ maxLen) (hk : maxLen < k) : pimpl_nameOk k s = some (decide (nmOk s)) := by
  unfold pimpl_nameOk
  obtain ⟨o, h1, h2⟩ := nameOk_L1 k s hs k 0 (by omega) (by omega)
  rw [show ((0 : Nat) : Int) = 0 from rfl] at h1
  rw [h1]
  cases o with
  | ret r =>
    obtain ⟨rfl, i, h3, h4⟩ := h2
    have : ¬ nmOk s := fun h => h4 (h.1 i h3)
    simp [this]
  | done u =>
    simp only [Option.bind_some]
    rw [within]
    simp only [Option.bind_some]
    rw [nm_of h2]

/-- The head of a term is as it should be. -/
def one (x : GTerm) : Bool :=
  if x.gKind = 1 then inR x.gNum 0 99999 && (sEq x.gName (bs []) && ((x.gKids.length : Int) == 0))
  else if x.gKind = 2 then decide (nmOk x.gName) && ((x.gNum == 0) && ((x.gKids.length : Int) == 0))
  else if x.gKind = 3 then inR x.gNum (-999999999) 999999999 && (sEq x.gName (bs []) && ((x.gKids.length : Int) == 0))
  else if x.gKind = 4 then decide (nmOk x.gName) && ((x.gNum == 0) && inR (x.gKids.length : Int) 1 5)
  else false
mutual
/-- A term, at a depth, is as it should be. -/
def gT : Int → GTerm → Bool
  | d, .mk a b c l => decide (d ≤ 40) && (one (.mk a b c l) && gTs (d + 1) l)
def gTs : Int → List GTerm → Bool
  | _, [] => true
  | d, x :: l => gT d x && gTs d l
end
theorem gT_eq (d : Int) (x : GTerm) : gT d x = (decide (d ≤ 40) && (one x && gTs (d + 1) x.gKids)) := by
  cases x with
  | mk a b c l => rw [gT]; rfl
theorem gTs_drop {d : Int} {l : List GTerm} {j : Nat} (h : j < l.length) : gTs d (l.drop j) = (gT d l[j] && gTs d (l.drop (j + 1))) := by
  rw [List.drop_eq_getElem_cons h, gTs]
theorem ns_drop {l : List GTerm} {j : Nat} (h : j < l.length) : nsum nT (l.drop j) = 1 + nT l[j] + nsum nT (l.drop (j + 1)) := by
  rw [List.drop_eq_getElem_cons h, nsum]

theorem l03One {k : Nat} {x : GTerm} (hx : x.ok) (hk : maxLen < k) : pspec_l03One k x = some (one x) := by
  have hn := l03Name (k := k) (s := x.gName) (ok_name hx) hk
  unfold pspec_l03One one
  simp only [hn, l01In, Option.bind_some]
  by_cases c1 : x.gKind = 1
  · rw [if_pos (by simpa using c1), if_pos c1]
    cases inR x.gNum 0 99999 <;> cases sEq x.gName (bs []) <;> simp
  rw [if_neg (by simpa using c1), if_neg c1]
  by_cases c2 : x.gKind = 2
  · rw [if_pos (by simpa using c2), if_pos c2]
    cases decide (nmOk x.gName) <;> by_cases h : x.gNum = 0 <;> simp [h]
  rw [if_neg (by simpa using c2), if_neg c2]
  by_cases c3 : x.gKind = 3
  · rw [if_pos (by simpa using c3), if_pos c3]
    cases inR x.gNum (-999999999) 999999999 <;> cases sEq x.gName (bs []) <;> simp
  rw [if_neg (by simpa using c3), if_neg c3]
  by_cases c4 : x.gKind = 4
  · rw [if_pos (by simpa using c4), if_pos c4]
    cases decide (nmOk x.gName) <;> by_cases h : x.gNum = 0 <;> simp [h]
  · rw [if_neg (by simpa using c4), if_neg c4]

/-- What is left of so many terms. -/
def leftOf (v left : Int) (n : Nat) : Prop := -1 ≤ v ∧ (0 ≤ v ↔ (n : Int) ≤ left) ∧ (0 ≤ v → v = left - (n : Int))
theorem l03Count_L1 {k : Nat} {x : GTerm} {f : GTerm → Int → Option Int} (hx : x.gKids.length ≤ maxLen) (hf : ∀ y ∈ x.gKids, ∀ b, 0 ≤ b → b ≤ 400 → ∃ v, f y b = some v ∧ leftOf v b (1 + nT y)) :
    ∀ (m j : Nat) (b : Int), j ≤ x.gKids.length → x.gKids.length - j < m → -1 ≤ b → b ≤ 400 →
      ∃ v, pspec_l03Count_L1 k f x m b (j : Int) = some (.done v) ∧ ((b = -1 ∧ v = -1) ∨ (0 ≤ b ∧ leftOf v b (nsum nT (x.gKids.drop j))))
  | 0, j, b, h1, h2, h3, h4 => by omega
  | m + 1, j, b, h1, h2, h3, h4 => by
    unfold pspec_l03Count_L1
    by_cases hlt : j < x.gKids.length
    · rw [if_pos (by simpa using hlt)]
      by_cases hb : 0 ≤ b
      · rw [if_pos (by simpa using hb), at_lt hlt]
        simp only [Option.bind_some]
        obtain ⟨v, e, g1, g2, g3⟩ := hf _ (List.getElem_mem hlt) b hb h4
        rw [e]
        simp only [Option.bind_some]
        rw [wr_succ hlt hx]
        obtain ⟨u, e2, h5⟩ := l03Count_L1 (k := k) hx hf m (j + 1) v (by omega) (by omega) g1 (by by_cases h : 0 ≤ v <;> omega)
        refine ⟨u, e2, .inr ⟨hb, ?_⟩⟩
        rw [ns_drop hlt]
        rcases h5 with ⟨rfl, rfl⟩ | ⟨h6, h7, h8, h9⟩
        · refine ⟨by omega, ⟨fun h => by omega, fun h => by have := g2.2 (by omega); omega⟩, fun h => by omega⟩
        · have := g3 h6
          have := g2.1 h6
          refine ⟨h7, ⟨fun h => by have := h8.1 h; omega, fun h => h8.2 (by omega)⟩, fun h => by have := h9 h; omega⟩
      · rw [if_neg (by simpa using hb)]
        exact ⟨b, rfl, .inl ⟨by omega, by omega⟩⟩
    · rw [if_neg (by simpa using hlt)]
      rw [List.drop_of_length_le (by omega)]
      by_cases hb : 0 ≤ b
      · exact ⟨b, rfl, .inr ⟨hb, h3, by simp only [nsum]; omega, fun _ => by simp only [nsum]; omega⟩⟩
      · exact ⟨b, rfl, .inl ⟨by omega, by omega⟩⟩

theorem l03Count : ∀ (k : Nat) (x : GTerm), maxLen + 2 * nT x + 2 < k → x.ok → ∀ b : Int, 0 ≤ b → b ≤ 400 → ∃ v, pspec_l03Count k x b = some v ∧ leftOf v b (1 + nT x)
  | 0, x, h => by omega
  | k + 1, x, hw => by
    intro hx b h0 h1
    have hn := nT_kids x
    unfold pspec_l03Count
    rw [wr_i64 (by omega) (by omega)]
    obtain ⟨v, e, h⟩ := l03Count_L1 (k := k) (x := x) (ok_kids hx).1 (fun y hy b h0 h1 => by have := nsum_mem (n := nT) hy; exact l03Count k y (by omega) ((ok_kids hx).2 y hy) b h0 h1) k 0 (b - 1) (by omega) (by have := (ok_kids hx).1; omega) (by omega) (by omega)
    rw [show ((0 : Nat) : Int) = 0 from rfl] at e
    rw [e]
    refine ⟨v, rfl, ?_⟩
    rw [List.drop_zero, ← hn] at h
    rcases h with ⟨h2, rfl⟩ | ⟨h2, h3, h4, h5⟩
    · exact ⟨by omega, ⟨fun h => by omega, fun h => by omega⟩, fun h => by omega⟩
    · exact ⟨h3, ⟨fun h => by have := h4.1 h; omega, fun h => h4.2 (by omega)⟩, fun h => by have := h5 h; omega⟩

theorem l03Right_L1 {k : Nat} {x : GTerm} {d : Int} {f : GTerm → Int → Option Bool} (hx : x.gKids.length ≤ maxLen) (hd : wr.i64 (d + 1) = d + 1) (hf : ∀ y ∈ x.gKids, f y (d + 1) = some (gT (d + 1) y)) :
    ∀ (m j : Nat), j ≤ x.gKids.length → x.gKids.length - j < m → pspec_l03Right_L1 k f x d m (j : Int) = some (if gTs (d + 1) (x.gKids.drop j) then .done () else .ret false)
  | 0, j, h1, h2 => by omega
  | m + 1, j, h1, h2 => by
    unfold pspec_l03Right_L1
    by_cases hlt : j < x.gKids.length
    · rw [if_pos (by simpa using hlt), at_lt hlt, hd]
      simp only [Option.bind_some, hf _ (List.getElem_mem hlt)]
      rw [gTs_drop hlt]
      cases hg : gT (d + 1) x.gKids[j] with
      | false => simp
      | true =>
        rw [if_neg (by simp), wr_succ hlt hx, l03Right_L1 hx hd hf m (j + 1) (by omega) (by omega)]
        simp
    · rw [if_neg (by simpa using hlt), List.drop_of_length_le (by omega), gTs]; rfl

theorem l03Right : ∀ (k : Nat) (x : GTerm), maxLen + 2 * nT x + 2 < k → x.ok → ∀ d : Int, 0 ≤ d → d ≤ 41 → pspec_l03Right k x d = some (gT d x)
  | 0, x, h => by omega
  | k + 1, x, hw => by
    intro hx d h0 h1
    have hn := nT_kids x
    unfold pspec_l03Right
    rw [gT_eq]
    by_cases hd : d > 40
    · rw [if_pos (by simpa using hd)]; simp; omega
    · rw [if_neg (by simpa using hd), l03One hx (by omega)]
      simp only [Option.bind_some]
      cases h1 : one x with
      | false => simp
      | true =>
        rw [if_neg (by simp)]
        have e := l03Right_L1 (k := k) (x := x) (d := d) (ok_kids hx).1 (wr_i64 (by omega) (by omega)) (fun y hy => by have := nsum_mem (n := nT) hy; exact l03Right k y (by omega) ((ok_kids hx).2 y hy) (d + 1) (by omega) (by omega)) k 0 (by omega) (by have := (ok_kids hx).1; omega)
        rw [show ((0 : Nat) : Int) = 0 from rfl, List.drop_zero] at e
        rw [e]
        cases gTs (d + 1) x.gKids <;> simp <;> omega

/-- A term is right. -/
def tOk (x : GTerm) : Bool := decide (1 + nT x ≤ 400) && gT 1 x
theorem spec_TermOk {k : Nat} {x : GTerm} (hw : maxLen + 2 * nT x + 2 < k) (hx : x.ok) : pspec_TermOk k x = some (tOk x) := by
  unfold pspec_TermOk tOk
  obtain ⟨v, e, h1, h2, h3⟩ := l03Count k x hw hx 400 (by omega) (by omega)
  rw [e]
  simp only [Option.bind_some]
  by_cases hv : 0 ≤ v
  · rw [if_pos (by simpa using hv), l03Right k x hw hx 1 (by omega) (by omega)]
    have := h2.1 hv
    simp; omega
  · rw [if_neg (by simpa using hv)]
    have : ¬ (1 + nT x ≤ 400) := fun h => hv (h2.2 (by omega))
    simp [this]

/-- What the program counts. -/
def cnt (d : Int) (x : GTerm) : Int := if gT d x && decide (1 + nT x ≤ 400) then ((1 + nT x : Nat) : Int) else 401
theorem sized_L2 {k : Nat} {x : GTerm} {d : Int} {f : GTerm → Int → Option Int} (hx : x.gKids.length ≤ maxLen) (hd : wr.i64 (d + 1) = d + 1) (hf : ∀ y ∈ x.gKids, f y (d + 1) = some (cnt (d + 1) y)) :
    ∀ (m j : Nat) (b : Int), j ≤ x.gKids.length → x.gKids.length - j < m → 1 ≤ b → b ≤ 400 →
      pimpl_sized_L2 k f x d m b (j : Int) = some (if gTs (d + 1) (x.gKids.drop j) && decide (b + (nsum nT (x.gKids.drop j) : Int) ≤ 400) then .done (b + (nsum nT (x.gKids.drop j) : Int)) else .ret 401)
  | 0, j, b, h1, h2, h3, h4 => by omega
  | m + 1, j, b, h1, h2, h3, h4 => by
    unfold pimpl_sized_L2
    by_cases hlt : j < x.gKids.length
    · rw [if_pos (by simpa using hlt), at_lt hlt, hd]
      simp only [Option.bind_some, hf _ (List.getElem_mem hlt)]
      rw [gTs_drop hlt, ns_drop hlt, wr_succ hlt hx]
      by_cases hg : gT (d + 1) x.gKids[j] = true ∧ 1 + nT x.gKids[j] ≤ 400
      · have hc : cnt (d + 1) x.gKids[j] = ((1 + nT x.gKids[j] : Nat) : Int) := by unfold cnt; rw [if_pos (by simpa using hg)]
        rw [hc, wr_i64 (by omega) (by omega)]
        by_cases hs : b + ((1 + nT x.gKids[j] : Nat) : Int) > 400
        · rw [if_pos (by simpa using hs), if_neg]
          simp only [Bool.and_eq_true, decide_eq_true_eq, not_and]
          intro _; omega
        · rw [if_neg (by simpa using hs), sized_L2 hx hd hf m (j + 1) _ (by omega) (by omega) (by omega) (by omega), hg.1, Bool.true_and]
          have e1 : b + ((1 + nT x.gKids[j] : Nat) : Int) + (nsum nT (x.gKids.drop (j + 1)) : Int) = b + ((1 + nT x.gKids[j] + nsum nT (x.gKids.drop (j + 1)) : Nat) : Int) := by omega
          rw [e1]
      · have hc : cnt (d + 1) x.gKids[j] = 401 := by unfold cnt; rw [if_neg (by simpa using hg)]
        rw [hc, wr_i64 (by omega) (by omega), if_pos (by simp; omega), if_neg]
        simp only [Bool.and_eq_true, decide_eq_true_eq, not_and]
        intro h5
        have h6 : ¬ (1 + nT x.gKids[j] ≤ 400) := fun h => hg ⟨h5.1, h⟩
        omega
    · rw [if_neg (by simpa using hlt), List.drop_of_length_le (by omega), gTs, if_pos (by simp only [nsum]; simp; omega)]
      simp [nsum]

theorem sized : ∀ (k : Nat) (x : GTerm), maxLen + 2 * nT x + 2 < k → x.ok → ∀ d : Int, 0 ≤ d → d ≤ 41 → pimpl_sized k x d = some (cnt d x)
  | 0, x, h => by omega
  | k + 1, x, hw => by
    intro hx d h0 h1
    have hn := nT_kids x
    have hnm := nameOk (k := k) (s := x.gName) (ok_name hx) (by omega)
    have hJ : d ≤ 40 → one x = true → pimpl_sized_J1 k (pimpl_sized k) x d = some (cnt d x) := by
      intro hd h1
      unfold pimpl_sized_J1 cnt
      have e := sized_L2 (k := k) (x := x) (d := d) (ok_kids hx).1 (wr_i64 (by omega) (by omega)) (fun y hy => by have := nsum_mem (n := nT) hy; exact sized k y (by omega) ((ok_kids hx).2 y hy) (d + 1) (by omega) (by omega)) k 0 1 (by omega) (by have := (ok_kids hx).1; omega) (by omega) (by omega)
      rw [show ((0 : Nat) : Int) = 0 from rfl, List.drop_zero, ← hn] at e
      rw [e, gT_eq, h1, Bool.true_and, decide_eq_true hd, Bool.true_and]
      have e2 : decide (1 + (nT x : Int) ≤ 400) = decide (1 + nT x ≤ 400) := by rw [decide_eq_decide]; omega
      rw [e2]
      split
      · simp
      · simp
    have hbad : one x = false → (401 : Int) = cnt d x := by
      intro h1; unfold cnt; rw [gT_eq, h1]; simp
    unfold pimpl_sized
    by_cases hd : d > 40
    · rw [if_pos (by simpa using hd)]
      unfold cnt; rw [gT_eq, decide_eq_false (show ¬ d ≤ 40 by omega)]; simp
    have hJ' := hJ (by omega)
    rw [if_neg (by simpa using hd)]
    simp only [hnm, within, Option.bind_some]
    generalize pimpl_sized_J1 k (pimpl_sized k) x d = J at hJ' ⊢
    generalize cnt d x = C at hJ' hbad ⊢
    have hlen : ((x.gKids.length : Int) > 0) ↔ ¬ ((x.gKids.length : Int) = 0) := by omega
    unfold one at hJ' hbad
    by_cases c1 : x.gKind = 1
    · rw [if_pos (by simpa using c1)]
      rw [if_pos c1] at hJ' hbad
      cases h2 : inR x.gNum 0 99999 <;> cases h3 : sEq x.gName (bs []) <;> by_cases h4 : (x.gKids.length : Int) = 0 <;> simp_all
    rw [if_neg (by simpa using c1)]
    rw [if_neg c1] at hJ' hbad
    by_cases c2 : x.gKind = 2
    · rw [if_pos (by simpa using c2)]
      rw [if_pos c2] at hJ' hbad
      cases h2 : decide (nmOk x.gName) <;> by_cases h3 : x.gNum = 0 <;> by_cases h4 : (x.gKids.length : Int) = 0 <;> simp_all
    rw [if_neg (by simpa using c2)]
    rw [if_neg c2] at hJ' hbad
    by_cases c3 : x.gKind = 3
    · rw [if_pos (by simpa using c3)]
      rw [if_pos c3] at hJ' hbad
      cases h2 : inR x.gNum (-999999999) 999999999 <;> cases h3 : sEq x.gName (bs []) <;> by_cases h4 : (x.gKids.length : Int) = 0 <;> simp_all
    rw [if_neg (by simpa using c3)]
    rw [if_neg c3] at hJ' hbad
    by_cases c4 : x.gKind = 4
    · rw [if_pos (by simpa using c4)]
      rw [if_pos c4] at hJ' hbad
      cases h2 : decide (nmOk x.gName) <;> by_cases h3 : x.gNum = 0 <;> cases h4 : inR (x.gKids.length : Int) 1 5 <;> simp_all
    · rw [if_neg (by simpa using c4)]
      rw [if_neg c4] at hbad
      rw [hbad rfl]

theorem impl_TermOk {k : Nat} {x : GTerm} (hw : maxLen + 2 * nT x + 2 < k) (hx : x.ok) : pimpl_TermOk k x = some (tOk x) := by
  unfold pimpl_TermOk tOk
  rw [sized k x hw hx 1 (by omega) (by omega)]
  simp only [Option.bind_some]
  unfold cnt
  cases gT 1 x <;> by_cases h : 1 + nT x ≤ 400 <;> simp [h] <;> omega
theorem follow_L1 (k : Nat) (x : GHeap) (hl : x.gCells.length ≤ 1048576) : ∀ (m n : Nat) (a : Int), n ≤ x.gCells.length + 1 → x.gCells.length + 1 - n < m →
    ∃ o, pspec_l13Follow_L1 k x.gCells m a (n : Int) = some o ∧ pimpl_follow_L1 k x m a (n : Int) = some o
  | 0, n, a, h1, h2 => by omega
  | m + 1, n, a, h1, h2 => by
    unfold pspec_l13Follow_L1 pimpl_follow_L1
    have hw : wr.i64 ((x.gCells.length : Int) + 1) = (x.gCells.length : Int) + 1 := wr_i64 (by omega) (by omega)
    have hw1 : wr.i64 ((x.gCells.length : Int) - 1) = (x.gCells.length : Int) - 1 := wr_i64 (by omega) (by omega)
    rw [hw]
    by_cases hlt : n < x.gCells.length + 1
    · have hd1 : decide ((n : Int) ≤ (x.gCells.length : Int)) = true := by simp; omega
      have hd2 : decide ((n : Int) < (x.gCells.length : Int) + 1) = true := by simp; omega
      rw [if_pos hd1, if_pos hd2]
      unfold pimpl_isCell
      rw [l01InD, withinD, hw1]
      simp only [Option.bind_some]
      by_cases ha : 0 ≤ a ∧ a ≤ (x.gCells.length : Int) - 1
      · obtain ⟨i, rfl⟩ : ∃ i : Nat, a = (i : Int) := ⟨a.toNat, by omega⟩
        have hi : i < x.gCells.length := by omega
        have ih := follow_L1 k x hl m (n + 1) x.gCells[i].gTo (by omega) (by omega)
        have hs : wr.i64 ((n : Int) + 1) = ((n + 1 : Nat) : Int) := by rw [wr_i64 (by omega) (by omega)]; omega
        simp only [at_lt hi, Option.bind_some, hs]
        have hg : ¬ (!decide (0 ≤ ((i : Nat) : Int) ∧ ((i : Nat) : Int) ≤ (x.gCells.length : Int) - 1)) = true := by simp [ha]
        rw [if_neg hg, if_neg hg]
        split
        · exact ⟨_, rfl, rfl⟩
        · split
          · exact ⟨_, rfl, rfl⟩
          · exact ih
      · rw [if_pos (by simp only [decide_eq_false ha]; rfl), if_pos (by simp only [decide_eq_false ha]; rfl)]
        exact ⟨_, rfl, rfl⟩
    · have hd1 : ¬ decide ((n : Int) ≤ (x.gCells.length : Int)) = true := by simp; omega
      have hd2 : ¬ decide ((n : Int) < (x.gCells.length : Int) + 1) = true := by simp; omega
      rw [if_neg hd1, if_neg hd2]
      exact ⟨_, rfl, rfl⟩

theorem followBoth {k : Nat} {x : GHeap} (hx : x.gCells.length ≤ 1048576) (hk : maxLen < k) (a : Int) : ∃ r, pspec_FollowCell k x a = some r ∧ pimpl_follow k x a = some r := by
  unfold pspec_FollowCell pspec_l13Follow pimpl_follow
  obtain ⟨o, h1, h2⟩ := follow_L1 k x hx k 0 a (by omega) (by rw [maxLen_eq] at hk; omega)
  rw [show ((0 : Nat) : Int) = 0 from rfl] at h1 h2
  rw [h1, h2]
  cases o with
  | ret r => exact ⟨r, rfl, rfl⟩
  | done u => exact ⟨_, rfl, rfl⟩
/-- Is there a ref of this number? -/
def rf (l : List GCell) (v : Int) : Bool := l.any fun c => c.gKind == 1 && c.gNum == v
theorem mget_same : ∀ (l : List (Int × Int)) (k v : Int), mget (mset l k v) k = v
  | [], k, v => by simp [mset, mget]
  | p :: l, k, v => by
    rw [mset]
    by_cases h : p.1 = k
    · rw [if_pos h]; simp [mget]
    · rw [if_neg h, mget, if_neg h]; exact mget_same l k v
theorem mget_other : ∀ (l : List (Int × Int)) (k v q : Int), k ≠ q → mget (mset l k v) q = mget l q
  | [], k, v, q, h => by simp [mset, mget, h]
  | p :: l, k, v, q, h => by
    rw [mset]
    by_cases e : p.1 = k
    · rw [if_pos e, mget, mget, if_neg h, if_neg (by rw [e]; exact h)]
    · rw [if_neg e, mget, mget, mget_other l k v q h]
theorem isCell {k : Nat} {x : GHeap} (hn : x.gCells.length ≤ 60000) (a : Int) : pimpl_isCell k x a = some (decide (0 ≤ a ∧ a ≤ (x.gCells.length : Int) - 1)) := by
  unfold pimpl_isCell
  rw [withinD, wr_i64 (by omega) (by omega)]; rfl
theorem kids_L3 {k : Nat} {x : GHeap} {c : GCell} (hn : x.gCells.length ≤ 60000) (hc : c.gKids.length ≤ maxLen) : ∀ (m j : Nat), j ≤ c.gKids.length → c.gKids.length - j < m →
    ∃ o, pspec_HeapOk_L3 k c x m (j : Int) = some o ∧ pimpl_HeapOk_L3 k c x m (j : Int) = some o ∧ (∀ r, o = .ret r → r = false)
  | 0, j, h1, h2 => by omega
  | m + 1, j, h1, h2 => by
    unfold pspec_HeapOk_L3 pimpl_HeapOk_L3
    by_cases hlt : j < c.gKids.length
    · rw [if_pos (by simpa using hlt), if_pos (by simpa using hlt), at_lt hlt]
      simp only [Option.bind_some]
      rw [l01InD, isCell hn, wr_i64 (x := (x.gCells.length : Int) - 1) (by omega) (by omega), wr_succ hlt hc]
      simp only [Option.bind_some]
      by_cases h : 0 ≤ c.gKids[j] ∧ c.gKids[j] ≤ (x.gCells.length : Int) - 1
      · rw [decide_eq_true h]
        simp only [Bool.not_true, Bool.false_eq_true, if_false]
        exact kids_L3 hn hc m (j + 1) (by omega) (by omega)
      · rw [decide_eq_false h]
        exact ⟨_, rfl, rfl, fun r e => by cases e; rfl⟩
    · rw [if_neg (by simpa using hlt), if_neg (by simpa using hlt)]
      exact ⟨_, rfl, rfl, fun r e => by cases e⟩
theorem uniq_L4 {k : Nat} {x : GHeap} {c : GCell} (hn : x.gCells.length ≤ 60000) {i : Nat} (hi : i ≤ x.gCells.length) (hc : c.gKind = 1) : ∀ (m j : Nat), j ≤ i → i - j < m →
    pspec_HeapOk_L4 k (i : Int) c x m (j : Int) = some (if rf ((x.gCells.take i).drop j) c.gNum then .ret false else .done ())
  | 0, j, h1, h2 => by omega
  | m + 1, j, h1, h2 => by
    unfold pspec_HeapOk_L4
    by_cases hlt : j < i
    · have hj : j < x.gCells.length := by omega
      have hw : wr.i64 ((j : Int) + 1) = ((j + 1 : Nat) : Int) := by rw [wr_i64 (by omega) (by omega)]; omega
      have hd : (x.gCells.take i).drop j = x.gCells[j] :: (x.gCells.take i).drop (j + 1) := by
        rw [List.drop_eq_getElem_cons (by simp; omega)]; simp
      have hr : rf (x.gCells[j] :: (x.gCells.take i).drop (j + 1)) c.gNum = ((x.gCells[j].gKind == 1 && x.gCells[j].gNum == c.gNum) || rf ((x.gCells.take i).drop (j + 1)) c.gNum) := by unfold rf; rw [List.any_cons]
      rw [if_pos (by simpa using hlt), if_pos (by simpa using hc), at_lt hj, hd, hr, hw]
      simp only [Option.bind_some]
      cases h1 : (x.gCells[j].gKind == 1) with
      | false =>
        simp only [Bool.false_eq_true, if_false, Bool.false_and, Bool.false_or]
        exact uniq_L4 hn hi hc m (j + 1) (by omega) (by omega)
      | true =>
        cases h2 : (x.gCells[j].gNum == c.gNum) with
        | true => simp
        | false =>
          simp only [Bool.false_eq_true, if_false, if_true, Bool.true_and, Bool.false_or]
          exact uniq_L4 hn hi hc m (j + 1) (by omega) (by omega)
    · rw [if_neg (by simpa using hlt), List.drop_of_length_le (by simp; omega)]; simp [rf]
theorem uniq_L4n {k : Nat} {x : GHeap} {c : GCell} (hc : ¬ c.gKind = 1) (i : Int) {m : Nat} (hm : 0 < m) : pspec_HeapOk_L4 k i c x m 0 = some (.done ()) := by
  obtain ⟨q, rfl⟩ : ∃ q, m = q + 1 := ⟨m - 1, by omega⟩
  unfold pspec_HeapOk_L4
  split
  · rw [if_neg (by simpa using hc)]
  · rfl

/-- What the count of numbers says so far. -/
def Cnt (x : GHeap) (i : Nat) (j : List (Int × Int)) : Prop := ∀ v, mget j v = if rf (x.gCells.take i) v then 1 else 0
theorem rf_snoc {x : GHeap} {i : Nat} (hi : i < x.gCells.length) (v : Int) : rf (x.gCells.take (i + 1)) v = (rf (x.gCells.take i) v || (x.gCells[i].gKind == 1 && x.gCells[i].gNum == v)) := by
  rw [List.take_succ_eq_append_getElem hi]
  unfold rf
  rw [List.any_append]; simp

/-- What holds of the refs from a place on, when a heap is right. -/
def Refs (k : Nat) (x : GHeap) (i : Nat) : Prop := ∀ t, i ≤ t → (h : t < x.gCells.length) → x.gCells[t].gKind = 1 → (-1 ≤ x.gCells[t].gTo ∧ x.gCells[t].gTo ≤ (x.gCells.length : Int) - 1) ∧ ∃ r, pspec_FollowCell k x (t : Int) = some r ∧ 0 ≤ r
def Good (k : Nat) (x : GHeap) (i : Nat) (o : Out Bool Unit) : Prop := (∀ r, o = .ret r → r = false) ∧ (o = .done () → Refs k x i)
theorem Good.bad {k : Nat} {x : GHeap} {i : Nat} : Good k x i (.ret false) := ⟨(fun r e => by cases e; rfl), fun e => by cases e⟩
theorem Good.end_ {k : Nat} {x : GHeap} {i : Nat} {o : Out Bool Unit} (h : x.gCells.length ≤ i) (ho : o = .done ()) : Good k x i o := ⟨(fun r e => by rw [ho] at e; cases e), fun _ t h1 h2 => by omega⟩
theorem Good.step {k : Nat} {x : GHeap} {i : Nat} {o : Out Bool Unit} (h : Good k x (i + 1) o) (hi : i < x.gCells.length) (hp : x.gCells[i].gKind = 1 → (-1 ≤ x.gCells[i].gTo ∧ x.gCells[i].gTo ≤ (x.gCells.length : Int) - 1) ∧ ∃ r, pspec_FollowCell k x (i : Int) = some r ∧ 0 ≤ r) : Good k x i o :=
  ⟨h.1, fun e t h1 h2 hk => by
    by_cases hti : t = i
    · subst hti; exact hp hk
    · exact h.2 e t (by omega) h2 hk⟩

theorem cells_L1 {k : Nat} {x : GHeap} (hn : x.gCells.length ≤ 60000) (hok : okL GCell.ok x.gCells) (hk : maxLen < k) : ∀ (m i : Nat) (j : List (Int × Int)), i ≤ x.gCells.length → x.gCells.length - i < m → Cnt x i j →
    ∃ o, pspec_HeapOk_L1 k x m (i : Int) = some o ∧ pimpl_HeapOk_L1 k x m (i : Int) j = some o ∧ Good k x i o
  | 0, i, j, h1, h2, h3 => by omega
  | m + 1, i, j, h1, h2, h3 => by
    have hM := maxLen_eq
    unfold pspec_HeapOk_L1 pimpl_HeapOk_L1
    by_cases hlt : i < x.gCells.length
    · have hw : wr.i64 ((i : Int) + 1) = ((i + 1 : Nat) : Int) := by rw [wr_i64 (by omega) (by omega)]; omega
      have hkids : x.gCells[i].gKids.length ≤ maxLen := (hok.2 _ (List.getElem_mem hlt)).2.2.2.2.1
      obtain ⟨o3, a1, a2, a3⟩ := kids_L3 (k := k) (c := x.gCells[i]) hn hkids k 0 (by omega) (by omega)
      rw [show ((0 : Nat) : Int) = 0 from rfl] at a1 a2
      obtain ⟨fo, f1, f2⟩ := followBoth (k := k) (x := x) (by omega) hk (i : Int)
      have hw1 : wr.i64 ((x.gCells.length : Int) - 1) = (x.gCells.length : Int) - 1 := wr_i64 (by omega) (by omega)
      rw [if_pos (by simpa using hlt), if_pos (by simpa using hlt), at_lt hlt]
      simp only [Option.bind_some]
      rw [l01InD, withinD]
      simp only [Option.bind_some]
      by_cases hkd : 1 ≤ x.gCells[i].gKind ∧ x.gCells[i].gKind ≤ 4
      · rw [decide_eq_true hkd]
        simp only [Bool.not_true, Bool.false_eq_true, if_false]
        by_cases hk1 : x.gCells[i].gKind = 1
        · have hk1' : (x.gCells[i].gKind == 1) = true := by simpa using hk1
          have u4 := uniq_L4 (k := k) (c := x.gCells[i]) hn (i := i) (by omega) hk1 k 0 (by omega) (by omega)
          rw [show ((0 : Nat) : Int) = 0 from rfl, List.drop_zero] at u4
          have hj := h3 x.gCells[i].gNum
          rw [if_pos hk1', if_pos hk1', l01InD, mget_same, hw1, isCell hn, f1, f2]
          simp only [Option.bind_some]
          cases hr : rf (x.gCells.take i) x.gCells[i].gNum with
          | true =>
            -- the number was met before
            rw [hr, if_pos rfl] at hj
            rw [hr, if_pos rfl] at u4
            have : wr.i64 (mget j x.gCells[i].gNum + 1) > 1 := by rw [hj]; decide
            rw [if_pos (show decide (wr.i64 (mget j x.gCells[i].gNum + 1) > 1) = true from decide_eq_true this)]
            refine ⟨.ret false, ?_, rfl, Good.bad⟩
            split
            · rfl
            · split
              · rfl
              · unfold pspec_HeapOk_J2
                rw [a1]
                simp only [Option.bind_some]
                cases o3 with
                | ret r =>
                  have : r = false := a3 r rfl
                  subst this; rfl
                | done u => cases u; show (pspec_HeapOk_L4 k (i : Int) x.gCells[i] x k 0).bind _ = _; rw [u4]; rfl
          | false =>
            rw [hr, if_neg (by simp)] at hj
            rw [hr, if_neg (by simp)] at u4
            have hv : wr.i64 (mget j x.gCells[i].gNum + 1) = 1 := by rw [hj]; decide
            rw [hv, if_neg (show ¬ decide ((1 : Int) > 1) = true by decide)]
            have hcnt : Cnt x (i + 1) (mset j x.gCells[i].gNum 1) := by
              intro v
              rw [rf_snoc hlt, hk1', Bool.true_and]
              by_cases hv : x.gCells[i].gNum = v
              · subst hv; rw [mget_same]; simp
              · rw [mget_other _ _ _ _ hv, h3 v]; simp [hv]
            have rest : ∃ o, pspec_HeapOk_J2 k (pspec_HeapOk_L1 k x m) x.gCells[i] x (i : Int) = some o ∧ pimpl_HeapOk_J2 k (pimpl_HeapOk_L1 k x m) x.gCells[i] x (i : Int) (mset j x.gCells[i].gNum 1) = some o ∧ Good k x (i + 1) o := by
              unfold pspec_HeapOk_J2 pimpl_HeapOk_J2
              rw [a1, a2]
              simp only [Option.bind_some]
              cases o3 with
              | ret r => cases a3 r rfl; exact ⟨_, rfl, rfl, Good.bad⟩
              | done u =>
                cases u
                simp only [u4, Option.bind_some, hw]
                exact cells_L1 hn hok hk m (i + 1) _ (by omega) (by omega) hcnt
            obtain ⟨o, g1, g2, g3⟩ := rest
            by_cases ht : x.gCells[i].gTo = -1
            · have hin : (-1 : Int) ≤ x.gCells[i].gTo ∧ x.gCells[i].gTo ≤ (x.gCells.length : Int) - 1 := by omega
              rw [decide_eq_true hin, if_neg (show ¬ (x.gCells[i].gTo != -1) = true by simp [ht])]
              simp only [Bool.not_true, Bool.false_eq_true, if_false]
              split
              · exact ⟨_, rfl, rfl, Good.bad⟩
              · rename_i hf
                exact ⟨o, g1, g2, g3.step hlt fun _ => ⟨hin, fo, f1, by simpa using hf⟩⟩
            · rw [if_pos (show (x.gCells[i].gTo != -1) = true by simpa using ht)]
              by_cases hin : (0 : Int) ≤ x.gCells[i].gTo ∧ x.gCells[i].gTo ≤ (x.gCells.length : Int) - 1
              · rw [decide_eq_true hin, decide_eq_true (show (-1 : Int) ≤ x.gCells[i].gTo ∧ x.gCells[i].gTo ≤ (x.gCells.length : Int) - 1 from ⟨by omega, hin.2⟩)]
                simp only [Bool.not_true, Bool.false_eq_true, if_false]
                split
                · exact ⟨_, rfl, rfl, Good.bad⟩
                · rename_i hf
                  exact ⟨o, g1, g2, g3.step hlt fun _ => ⟨⟨by omega, hin.2⟩, fo, f1, by simpa using hf⟩⟩
              · rw [decide_eq_false hin, decide_eq_false (show ¬ ((-1 : Int) ≤ x.gCells[i].gTo ∧ x.gCells[i].gTo ≤ (x.gCells.length : Int) - 1) by omega)]
                exact ⟨_, rfl, rfl, Good.bad⟩
        · have hk1' : ¬ (x.gCells[i].gKind == 1) = true := by simpa using hk1
          have u4 := uniq_L4n (k := k) (x := x) hk1 (i : Int) (m := k) (by omega)
          rw [if_neg hk1', if_neg hk1']
          unfold pspec_HeapOk_J2 pimpl_HeapOk_J2
          rw [a1, a2]
          simp only [Option.bind_some]
          cases o3 with
          | ret r => cases a3 r rfl; exact ⟨_, rfl, rfl, Good.bad⟩
          | done u =>
            cases u
            simp only [u4, Option.bind_some, hw]
            have hcnt : Cnt x (i + 1) j := fun v => by
              rw [rf_snoc hlt, h3 v]
              have : (x.gCells[i].gKind == 1) = false := by simpa using hk1
              rw [this]; simp
            obtain ⟨o, g1, g2, g3⟩ := cells_L1 hn hok hk m (i + 1) j (by omega) (by omega) hcnt
            exact ⟨o, g1, g2, g3.step hlt fun h => absurd h hk1⟩
      · rw [decide_eq_false hkd]
        exact ⟨_, rfl, rfl, Good.bad⟩
    · rw [if_neg (by simpa using hlt), if_neg (by simpa using hlt)]
      exact ⟨_, rfl, rfl, Good.end_ (by omega) rfl⟩

theorem trail_L {k : Nat} {x : GHeap} (hn : x.gCells.length ≤ 60000) (ht : x.gTrail.length ≤ maxLen) : ∀ (m j : Nat), j ≤ x.gTrail.length → x.gTrail.length - j < m →
    ∃ o, pspec_HeapOk_L5 k x m (j : Int) = some o ∧ pimpl_HeapOk_L4 k x m (j : Int) = some o ∧ (∀ r, o = .ret r → r = false)
  | 0, j, h1, h2 => by omega
  | m + 1, j, h1, h2 => by
    unfold pspec_HeapOk_L5 pimpl_HeapOk_L4
    by_cases hlt : j < x.gTrail.length
    · rw [if_pos (by simpa using hlt), if_pos (by simpa using hlt), at_lt hlt]
      simp only [Option.bind_some]
      rw [l01InD, isCell hn, wr_i64 (x := (x.gCells.length : Int) - 1) (by omega) (by omega), wr_succ hlt ht]
      simp only [Option.bind_some]
      by_cases h : 0 ≤ x.gTrail[j] ∧ x.gTrail[j] ≤ (x.gCells.length : Int) - 1
      · rw [decide_eq_true h]
        simp only [Bool.not_true, Bool.false_eq_true, if_false]
        obtain ⟨q, hq⟩ : ∃ q : Nat, x.gTrail[j] = (q : Int) := ⟨x.gTrail[j].toNat, by omega⟩
        rw [hq, at_lt (show q < x.gCells.length by omega)]
        simp only [Option.bind_some]
        split
        · exact ⟨_, rfl, rfl, fun r e => by cases e; rfl⟩
        · exact trail_L hn ht m (j + 1) (by omega) (by omega)
      · rw [decide_eq_false h]
        exact ⟨_, rfl, rfl, fun r e => by cases e; rfl⟩
    · rw [if_neg (by simpa using hlt), if_neg (by simpa using hlt)]
      exact ⟨_, rfl, rfl, fun r e => by cases e⟩

theorem heapOk {k : Nat} {x : GHeap} (hx : x.ok) (hk : maxLen < k) : ∃ b, pspec_HeapOk k x = some b ∧ pimpl_HeapOk k x = some b ∧ (b = true → x.gCells.length ≤ 60000 ∧ Refs k x 0) := by
  have hM := maxLen_eq
  unfold pspec_HeapOk pimpl_HeapOk
  by_cases h : (x.gCells.length : Int) > 60000
  · rw [if_pos (by simpa using h), if_pos (by simpa using h)]; exact ⟨_, rfl, rfl, fun e => by cases e⟩
  · have hn : x.gCells.length ≤ 60000 := by omega
    obtain ⟨o, g1, g2, g3⟩ := cells_L1 (k := k) hn hx.1 hk k 0 [] (by omega) (by omega) (fun v => by simp [mget, rf])
    obtain ⟨o2, q1, q2, q3⟩ := trail_L (k := k) hn hx.2.1 k 0 (by omega) (by have := hx.2.1; omega)
    rw [show ((0 : Nat) : Int) = 0 from rfl] at g1 g2 q1 q2
    rw [if_neg (by simpa using h), if_neg (by simpa using h), g1, g2]
    simp only [Option.bind_some]
    cases o with
    | ret r => cases g3.1 r rfl; exact ⟨_, rfl, rfl, fun e => by cases e⟩
    | done u =>
      cases u
      simp only []
      rw [q1, q2]
      simp only [Option.bind_some]
      cases o2 with
      | ret r => cases q3 r rfl; exact ⟨_, rfl, rfl, fun e => by cases e⟩
      | done u => cases u; exact ⟨_, rfl, rfl, fun _ => ⟨hn, g3.2 rfl⟩⟩
theorem l34Ints {k : Nat} {l : List Int} (hl : l.length ≤ 8388608) : pspec_l34Ints k l = some l := by
  unfold pspec_l34Ints
  rw [if_pos (by simp; omega)]
theorem l34Cells_L1 {k : Nat} {l : List GCell} (hl : l.length ≤ 8388608) (hf : ∀ x ∈ l, pspec_l34Cell k x = some x) :
    ∀ (m j : Nat), j ≤ l.length → l.length - j < m → pspec_l34Cells_L1 k l m (l.take j) (j : Int) = some (.done l)
  | 0, j, h1, h2 => by omega
  | m + 1, j, h1, h2 => by
    unfold pspec_l34Cells_L1
    have hm : l.length ≤ maxLen := by rw [maxLen_eq]; omega
    by_cases hlt : j < l.length
    · rw [if_pos (by simpa using hlt), at_lt hlt]
      simp only [Option.bind_some, hf _ (List.getElem_mem hlt)]
      rw [if_pos (by simp; omega), wr_succ hlt hm, ← List.take_succ_eq_append_getElem hlt]
      exact l34Cells_L1 hl hf m (j + 1) (by omega) (by omega)
    · rw [if_neg (by simpa using hlt), List.take_of_length_le (by omega)]
theorem nflat {α : Type} : ∀ l : List α, nsum (fun _ => 0) l = l.length
  | [] => rfl
  | x :: l => by simp only [nsum, nflat l, List.length_cons]; omega
theorem nCell_len (c : GCell) : nCell c = c.gKids.length := nflat _
theorem l34Heap {k : Nat} {x : GHeap} (h1 : nsum nCell x.gCells ≤ 8388608) (h2 : x.gTrail.length ≤ 8388608) (hk : maxLen < k) : pspec_l34Heap k x = some x := by
  have hM := maxLen_eq
  have hlen := nsum_len nCell x.gCells
  have e := l34Cells_L1 (k := k) (l := x.gCells) (by omega) (fun c hc => by
    have := nsum_mem (n := nCell) hc
    have hn := nCell_len c
    unfold pspec_l34Cell
    rw [l34Ints (by omega)]; rfl) k 0 (by omega) (by omega)
  rw [show ((0 : Nat) : Int) = 0 from rfl, List.take_zero] at e
  unfold pspec_l34Heap pspec_l34Cells
  rw [e]
  simp only [Option.bind_some, l34Ints h2]
theorem copyHeap_L1 {k : Nat} {x : GHeap} {o : List Int} (h1 : nsum nCell x.gCells ≤ 8388608) : ∀ (m j : Nat), j ≤ x.gCells.length → x.gCells.length - j < m → pimpl_copyHeap_L1 k x m (j : Int) (.mk (x.gCells.take j) o) = some (.done (.mk x.gCells o))
  | 0, j, h1, h2 => by omega
  | m + 1, j, h2, h3 => by
    have hlen := nsum_len nCell x.gCells
    have hm : x.gCells.length ≤ maxLen := by rw [maxLen_eq]; omega
    unfold pimpl_copyHeap_L1
    by_cases hlt : j < x.gCells.length
    · have hmem := nsum_mem (n := nCell) (List.getElem_mem hlt)
      have hn := nCell_len x.gCells[j]
      rw [if_pos (by simpa using hlt), at_lt hlt]
      simp only [Option.bind_some]
      rw [if_pos (by simp; omega), if_pos (by simp; omega), wr_succ hlt hm, ← List.take_succ_eq_append_getElem hlt]
      exact copyHeap_L1 h1 m (j + 1) (by omega) (by omega)
    · rw [if_neg (by simpa using hlt), List.take_of_length_le (by omega)]
theorem copyHeap {k : Nat} {x : GHeap} (h1 : nsum nCell x.gCells ≤ 8388608) (h2 : x.gTrail.length ≤ 8388608) (hk : maxLen < k) : pimpl_copyHeap k x = some x := by
  have hM := maxLen_eq
  have hlen := nsum_len nCell x.gCells
  have e := copyHeap_L1 (k := k) (x := x) (o := x.gTrail) h1 k 0 (by omega) (by omega)
  rw [show ((0 : Nat) : Int) = 0 from rfl, List.take_zero] at e
  unfold pimpl_copyHeap
  rw [if_pos (by simp; omega), e]; rfl
/-- The first ref of a number, from a place on. -/
def fr : List GCell → Int → Int → Int
  | [], _, _ => -1
  | c :: l, v, s => if c.gKind == 1 && c.gNum == v then s else fr l v (s + 1)
theorem fr_ge : ∀ (l : List GCell) (v s : Int), 0 ≤ s → fr l v s = -1 ∨ (s ≤ fr l v s ∧ fr l v s < s + l.length)
  | [], v, s, h => .inl rfl
  | c :: l, v, s, h => by
    rw [fr]
    split
    · right; simp; omega
    · rcases fr_ge l v (s + 1) (by omega) with h1 | h1
      · exact .inl h1
      · right; simp only [List.length_cons]; omega
theorem fr_snoc : ∀ (l : List GCell) (c : GCell) (v s : Int), 0 ≤ s → fr (l ++ [c]) v s = if fr l v s < 0 then (if c.gKind == 1 && c.gNum == v then s + (l.length : Int) else -1) else fr l v s
  | [], c, v, s, h => by simp [fr]
  | x :: l, c, v, s, h => by
    rw [List.cons_append, fr, fr, fr_snoc l c v (s + 1) (by omega)]
    cases hx : (x.gKind == 1 && x.gNum == v) with
    | true => simp; omega
    | false =>
      simp only [Bool.false_eq_true, if_false]
      split
      · split
        · simp only [List.length_cons]; omega
        · rfl
      · rfl
def getr (l : List Int) (n : Int) : Int := (l[n.toNat]?).getD (-1)
/-- The table tells the first ref of each number. -/
def Tab (refs : List Int) (cells : List GCell) : Prop := ∀ n : Int, 0 ≤ n → n ≤ 200000 → getr refs n = fr cells n 0

theorem name_L1 (k : Nat) {n : Int} (h0 : 0 ≤ n) (h1 : n ≤ 200000) : ∀ (q m : Nat) (f : GL13Heap), (n + 1 - (f.gRefs.length : Int)).toNat ≤ q → q < m → f.gRefs.length ≤ 200001 →
    ∃ g, pspec_l13Heap_name_L1 k n m f = some (.done g) ∧ g.gCells = f.gCells ∧ g.gTrail = f.gTrail ∧ g.gRefs.length ≤ 200001 ∧ n < (g.gRefs.length : Int) ∧ ∀ v, getr g.gRefs v = getr f.gRefs v
  | q, 0, f, h2, h3, h4 => by omega
  | q, m + 1, f, h2, h3, h4 => by
    unfold pspec_l13Heap_name_L1
    by_cases hl : (f.gRefs.length : Int) ≤ n
    · rw [if_pos (by simpa using hl), if_pos (by simp; omega)]
      have hq : 1 ≤ q := by omega
      obtain ⟨g, e, a, b, c, d, t⟩ := name_L1 k h0 h1 (q - 1) m (GL13Heap.mk f.gCells f.gTrail (f.gRefs ++ [-1]) f.gPairs) (by simp; omega) (by omega) (by simp; omega)
      refine ⟨g, e, a, b, c, d, fun v => ?_⟩
      rw [t v]
      show getr (f.gRefs ++ [-1]) v = _
      unfold getr
      by_cases hv : v.toNat < f.gRefs.length
      · rw [List.getElem?_append_left hv]
      · rw [List.getElem?_append_right (by omega)]
        rw [List.getElem?_eq_none (l := f.gRefs) (by omega)]
        cases hz : v.toNat - f.gRefs.length with
        | zero => rfl
        | succ z => rfl
    · rw [if_neg (by simpa using hl)]
      exact ⟨f, rfl, rfl, rfl, h4, by omega, fun v => rfl⟩
theorem getr_set {l : List Int} {q : Nat} (hq : q < l.length) (v : Int) {n : Int} (hn : 0 ≤ n) : getr (l.set q v) n = if n = (q : Int) then v else getr l n := by
  unfold getr
  rw [List.getElem?_set]
  by_cases h : n = (q : Int)
  · subst h; simp [hq]
  · rw [if_neg (by omega), if_neg h]
theorem name {k : Nat} {n v : Int} (h0 : 0 ≤ n) (h1 : n ≤ 200000) (hk : maxLen < k) {f : GL13Heap} (hf : f.gRefs.length ≤ 200001) :
    ∃ g, pspec_l13Heap_name k f n v = some g ∧ g.gCells = f.gCells ∧ g.gTrail = f.gTrail ∧ g.gRefs.length ≤ 200001 ∧ ∀ w : Int, 0 ≤ w → getr g.gRefs w = if w = n ∧ getr f.gRefs n < 0 then v else getr f.gRefs w := by
  have hM := maxLen_eq
  obtain ⟨g, e, a, b, c, d, t⟩ := name_L1 k h0 h1 200001 k f (by omega) (by omega) hf
  obtain ⟨q, rfl⟩ : ∃ q : Nat, n = (q : Int) := ⟨n.toNat, by omega⟩
  have hq : q < g.gRefs.length := by omega
  have hgq : getr f.gRefs (q : Int) = g.gRefs[q] := by rw [← t]; unfold getr; simp [hq]
  unfold pspec_l13Heap_name
  rw [e]
  simp only [Option.bind_some]
  rw [at_lt hq]
  simp only [Option.bind_some]
  by_cases hlt : g.gRefs[q] < 0
  · rw [if_pos (by simpa using hlt)]
    refine ⟨_, rfl, a, b, by simpa using c, fun w hw => ?_⟩
    show getr (g.gRefs.set ((q : Int)).toNat v) w = _
    rw [Int.toNat_natCast, getr_set hq v hw, hgq, t]
    by_cases hwq : w = (q : Int) <;> simp [hwq, hlt]
  · rw [if_neg (by simpa using hlt)]
    refine ⟨g, rfl, a, b, c, fun w hw => ?_⟩
    rw [t, if_neg (by rw [hgq]; omega)]
theorem of_L1 {k : Nat} {x : GHeap} (hx : x.gCells.length ≤ 1048576) (hk : maxLen < k) : ∀ (m j : Nat) (f : GL13Heap), j ≤ x.gCells.length → x.gCells.length - j < m → f.gRefs.length ≤ 200001 → Tab f.gRefs (x.gCells.take j) →
    ∃ g, pspec_l13Of_L1 k x m (j : Int) f = some (.done g) ∧ g.gCells = f.gCells ∧ g.gTrail = f.gTrail ∧ g.gRefs.length ≤ 200001 ∧ Tab g.gRefs x.gCells
  | 0, j, f, h1, h2, h3, h4 => by omega
  | m + 1, j, f, h1, h2, h3, h4 => by
    have hM := maxLen_eq
    have hm : x.gCells.length ≤ maxLen := by omega
    unfold pspec_l13Of_L1
    by_cases hlt : j < x.gCells.length
    · have htake : x.gCells.take (j + 1) = x.gCells.take j ++ [x.gCells[j]] := List.take_succ_eq_append_getElem hlt
      have hlen : ((x.gCells.take j).length : Int) = (j : Int) := by simp; omega
      have J2 : ∀ b : Bool, (b = true ↔ (x.gCells[j].gKind = 1 ∧ 0 ≤ x.gCells[j].gNum ∧ x.gCells[j].gNum ≤ 200000)) → ∃ g, pspec_l13Of_J2 k (pspec_l13Of_L1 k x m) x (j : Int) f b = some (.done g) ∧ g.gCells = f.gCells ∧ g.gTrail = f.gTrail ∧ g.gRefs.length ≤ 200001 ∧ Tab g.gRefs x.gCells := by
        intro b hb
        unfold pspec_l13Of_J2
        cases b with
        | false =>
          rw [if_neg (by simp), wr_succ hlt hm]
          refine of_L1 hx hk m (j + 1) f (by omega) (by omega) h3 (fun n n0 n1 => ?_)
          rw [htake, fr_snoc _ _ _ _ (by omega), h4 n n0 n1]
          have hno : (x.gCells[j].gKind == 1 && x.gCells[j].gNum == n) = false := by
            cases hc : (x.gCells[j].gKind == 1 && x.gCells[j].gNum == n) with
            | false => rfl
            | true =>
              simp at hc
              have := hb.2 ⟨hc.1, by omega, by omega⟩
              cases this
          rw [hno]
          rcases fr_ge (x.gCells.take j) n 0 (by omega) with h | h
          · rw [h]; simp
          · rw [if_neg (by omega)]
        | true =>
          obtain ⟨hk1, n0, n1⟩ := hb.1 rfl
          obtain ⟨g, e, a, b, c, t⟩ := name (k := k) (v := (j : Int)) n0 n1 hk h3
          rw [if_pos rfl, at_lt hlt]
          simp only [Option.bind_some]
          rw [e]
          simp only [Option.bind_some]
          rw [wr_succ hlt hm]
          obtain ⟨g', e', a', b', c', t'⟩ := of_L1 hx hk m (j + 1) g (by omega) (by omega) c (fun n q0 q1 => by
            rw [htake, fr_snoc _ _ _ _ (by omega), t n q0, hlen, h4 n q0 q1, h4 _ n0 n1]
            by_cases hn : n = x.gCells[j].gNum
            · subst hn
              have hp : (x.gCells[j].gKind == 1 && x.gCells[j].gNum == x.gCells[j].gNum) = true := by simp [hk1]
              rw [hp]
              by_cases hz : fr (x.gCells.take j) x.gCells[j].gNum 0 < 0
              · rw [if_pos ⟨rfl, hz⟩, if_pos hz]; simp
              · rw [if_neg (fun h => hz h.2), if_neg hz]
            · rw [if_neg (fun h => hn h.1)]
              have hp : (x.gCells[j].gKind == 1 && x.gCells[j].gNum == n) = false := by
                cases hc : (x.gCells[j].gKind == 1 && x.gCells[j].gNum == n) with
                | false => rfl
                | true => simp at hc; exact absurd hc.2.symm hn
              rw [hp]
              rcases fr_ge (x.gCells.take j) n 0 (by omega) with h | h
              · rw [h]; simp
              · rw [if_neg (show ¬ fr (x.gCells.take j) n 0 < 0 by omega)])
          exact ⟨g', e', by rw [a', a], by rw [b', b], c', t'⟩
      rw [if_pos (by simpa using hlt), at_lt hlt]
      simp only [Option.bind_some]
      by_cases hkk : x.gCells[j].gKind = 1
      · rw [if_pos (by simpa using hkk), l01InD]
        simp only [Option.bind_some]
        exact J2 _ ⟨fun h => ⟨hkk, of_decide_eq_true h⟩, fun h => decide_eq_true h.2⟩
      · rw [if_neg (by simpa using hkk)]
        exact J2 _ ⟨fun h => (by cases h), fun h => absurd h.1 hkk⟩
    · rw [if_neg (by simpa using hlt)]
      refine ⟨f, rfl, rfl, rfl, h3, ?_⟩
      rwa [List.take_of_length_le (by omega)] at h4
theorem l13Of {k : Nat} {x : GHeap} (hx : x.gCells.length ≤ 1048576) (ht : x.gTrail.length ≤ 1048576) (hk : maxLen < k) : ∃ g, pspec_l13Of k x = some g ∧ g.gCells = x.gCells ∧ g.gTrail = x.gTrail ∧ g.gRefs.length ≤ 200001 ∧ Tab g.gRefs x.gCells := by
  have hM := maxLen_eq
  obtain ⟨g, e, a, b, c, t⟩ := of_L1 (k := k) hx hk k 0 (GL13Heap.mk x.gCells x.gTrail [] 0) (by omega) (by omega) (by simp) (fun n _ _ => by simp [getr, fr])
  rw [show ((0 : Nat) : Int) = 0 from rfl] at e
  unfold pspec_l13Of
  rw [if_pos (by simp; omega), if_pos (by simp; omega), e]
  exact ⟨g, rfl, a, b, c, t⟩
theorem heapOf {k : Nat} {f : GL13Heap} (hx : f.gCells.length ≤ 8388608) (ht : f.gTrail.length ≤ 8388608) : pspec_l13Heap_heap k f = some (f, GHeap.mk f.gCells f.gTrail) := by
  unfold pspec_l13Heap_heap
  rw [if_pos (by simp; omega), if_pos (by simp; omega)]
/-- The two heaps are alike. -/
structure Alike (f : GL13Heap) (e : GHeap) : Prop where
  cells : f.gCells = e.gCells
  trail : f.gTrail = e.gTrail
  refs : f.gRefs.length ≤ 200001
  tab : Tab f.gRefs e.gCells
theorem Alike.add {f : GL13Heap} {e : GHeap} (h : Alike f e) {c : GCell} (hc : ¬ c.gKind = 1) : Alike (GL13Heap.mk (f.gCells ++ [c]) f.gTrail f.gRefs f.gPairs) (GHeap.mk (e.gCells ++ [c]) e.gTrail) :=
  ⟨by show f.gCells ++ [c] = e.gCells ++ [c]; rw [h.cells], h.trail, h.refs, fun n n0 n1 => by
    show getr f.gRefs n = fr (e.gCells ++ [c]) n 0
    have hp : (c.gKind == 1 && c.gNum == n) = false := by
      have : (c.gKind == 1) = false := by simpa using hc
      rw [this]; rfl
    rw [fr_snoc _ _ _ _ (by omega), h.tab n n0 n1, hp]
    rcases fr_ge e.gCells n 0 (by omega) with q | q
    · rw [q]; simp
    · rw [if_neg (by omega)]⟩
theorem add_ok {k : Nat} {f : GL13Heap} {c : GCell} (hl : f.gCells.length ≤ 16777216) : pspec_l13Heap_add k f c = some (GL13Heap.mk (f.gCells ++ [c]) f.gTrail f.gRefs f.gPairs, (f.gCells.length : Int)) := by
  unfold pspec_l13Heap_add
  rw [if_pos (by simp <;> omega), wr_i64 (by simp <;> omega) (by simp <;> omega)]
  simp
theorem put_J1 {k : Nat} {f : GHeap → GTerm → Option (GHeap × Int)} {e : GHeap} {c : GCell} (hl : e.gCells.length ≤ 16777216) : pimpl_put_J1 k f c e = some (GHeap.mk (e.gCells ++ [c]) e.gTrail, (e.gCells.length : Int)) := by
  unfold pimpl_put_J1
  rw [if_pos (by simp <;> omega), wr_i64 (by simp <;> omega) (by simp <;> omega)]
  simp
theorem put_L2 {k : Nat} {f : GHeap → GTerm → Option (GHeap × Int)} {e : GHeap} {t : GTerm} (hl : e.gCells.length ≤ 16777216) : ∀ (m j : Nat), j ≤ e.gCells.length → e.gCells.length - j < m →
    pimpl_put_L2 k f e t m (j : Int) = some (if fr (e.gCells.drop j) t.gNum (j : Int) < 0 then .done () else .ret (e, fr (e.gCells.drop j) t.gNum (j : Int)))
  | 0, j, h1, h2 => by omega
  | m + 1, j, h1, h2 => by
    have hm : e.gCells.length ≤ maxLen := by rw [maxLen_eq]; omega
    unfold pimpl_put_L2
    by_cases hlt : j < e.gCells.length
    · rw [if_pos (by simpa using hlt), at_lt hlt, List.drop_eq_getElem_cons hlt, fr, wr_succ hlt hm]
      simp only [Option.bind_some]
      have hj : ((j + 1 : Nat) : Int) = (j : Int) + 1 := by omega
      cases h1 : (e.gCells[j].gKind == 1) with
      | false =>
        simp only [Bool.false_eq_true, if_false, Bool.false_and]
        rw [put_L2 hl m (j + 1) (by omega) (by omega), hj]
      | true =>
        cases h2 : (e.gCells[j].gNum == t.gNum) with
        | false =>
          simp only [Bool.false_eq_true, if_false, if_true, Bool.true_and]
          rw [put_L2 hl m (j + 1) (by omega) (by omega), hj]
        | true =>
          simp only [if_true, Bool.true_and]
          rw [if_neg (by omega)]
    · rw [if_neg (by simpa using hlt), List.drop_of_length_le (by omega), fr]; simp

theorem ref_ok {k : Nat} {f : GL13Heap} {e : GHeap} (h : Alike f e) {n : Int} (n0 : 0 ≤ n) (n1 : n ≤ 99999) (hk : maxLen < k) (hl : e.gCells.length ≤ 16777216) :
    (fr e.gCells n 0 < 0 → ∃ g, pspec_l13Heap_ref k f n = some (g, (e.gCells.length : Int)) ∧ Alike g (GHeap.mk (e.gCells ++ [GCell.mk 1 (bs []) n (-1) []]) e.gTrail)) ∧
    (¬ fr e.gCells n 0 < 0 → pspec_l13Heap_ref k f n = some (f, fr e.gCells n 0)) := by
  have ht := h.tab n n0 (by omega)
  have J1 : fr e.gCells n 0 < 0 → ∃ g, pspec_l13Heap_ref_J1 k f n false = some (g, (e.gCells.length : Int)) ∧ Alike g (GHeap.mk (e.gCells ++ [GCell.mk 1 (bs []) n (-1) []]) e.gTrail) := by
    intro hneg
    unfold pspec_l13Heap_ref_J1
    rw [if_neg (by simp), add_ok (by rw [h.cells]; exact hl)]
    simp only [Option.bind_some]
    obtain ⟨g, e1, a, b, c, t⟩ := name (k := k) (n := n) (v := (f.gCells.length : Int)) n0 (by omega) hk (f := GL13Heap.mk (f.gCells ++ [GCell.mk 1 (bs []) n (-1) []]) f.gTrail f.gRefs f.gPairs) h.refs
    rw [e1]
    refine ⟨g, by simp only [Option.bind_some]; rw [h.cells], ⟨by rw [a]; show f.gCells ++ _ = e.gCells ++ _; rw [h.cells], by rw [b]; exact h.trail, c, fun w w0 w1 => ?_⟩⟩
    rw [t w w0]
    show (if w = n ∧ getr f.gRefs n < 0 then (f.gCells.length : Int) else getr f.gRefs w) = fr (e.gCells ++ [GCell.mk 1 (bs []) n (-1) []]) w 0
    rw [fr_snoc _ _ _ _ (by omega), h.tab w w0 w1, ht, h.cells]
    by_cases hw : w = n
    · subst hw
      rw [if_pos ⟨rfl, hneg⟩, if_pos hneg]; simp
    · rw [if_neg (fun q => hw q.1)]
      have hp : ((GCell.mk 1 (bs []) n (-1) []).gKind == 1 && (GCell.mk 1 (bs []) n (-1) []).gNum == w) = false := by
        have : (n == w) = false := by rw [beq_eq_false_iff_ne]; exact fun q => hw q.symm
        simp [this]
      rw [hp]
      rcases fr_ge e.gCells w 0 (by omega) with q | q
      · rw [q]; simp
      · rw [if_neg (by omega)]
  obtain ⟨q, rfl⟩ : ∃ q : Nat, n = (q : Int) := ⟨n.toNat, by omega⟩
  unfold pspec_l13Heap_ref
  by_cases hlt : q < f.gRefs.length
  · have hg : getr f.gRefs (q : Int) = f.gRefs[q] := by unfold getr; simp [hlt]
    rw [if_pos (by simpa using hlt), at_lt hlt]
    simp only [Option.bind_some]
    refine ⟨fun hneg => ?_, fun hpos => ?_⟩
    · have : ¬ f.gRefs[q] ≥ 0 := by rw [← hg, ht]; omega
      rw [decide_eq_false this]
      exact J1 hneg
    · have : f.gRefs[q] ≥ 0 := by rw [← hg, ht]; omega
      rw [decide_eq_true this]
      unfold pspec_l13Heap_ref_J1
      rw [if_pos rfl, at_lt hlt]
      simp only [Option.bind_some]
      rw [← hg, ht]
  · have hg : getr f.gRefs (q : Int) = -1 := by unfold getr; rw [List.getElem?_eq_none (by simpa using hlt)]; rfl
    rw [if_neg (by simpa using hlt)]
    refine ⟨fun hneg => J1 hneg, fun hpos => ?_⟩
    rw [← ht, hg] at hpos; omega

/-- What a step of putting gives. -/
def Step (e e' : GHeap) (n m : Nat) : Prop := e'.gTrail = e.gTrail ∧ e'.gCells.length ≤ e.gCells.length + n ∧ nsum nCell e'.gCells + m ≤ nsum nCell e.gCells + 2 * n
theorem Step.trans {a b c : GHeap} {n m p q : Nat} (h : Step a b n p) (g : Step b c m q) : Step a c (n + m) (p + q) := ⟨by rw [g.1, h.1], by have := h.2.1; have := g.2.1; omega, by have := h.2.2; have := g.2.2; omega⟩

theorem put_L {k : Nat} {t : GTerm} {F : GL13Heap → GTerm → Option (GL13Heap × Int)} {I : GHeap → GTerm → Option (GHeap × Int)} (hx : t.gKids.length ≤ 1048576) (a b c d0 : Int) (nm : ByteArray)
    (hF : ∀ y ∈ t.gKids, ∀ f e, Alike f e → e.gCells.length + 1 + nT y ≤ 8388608 → ∃ f' e' r, F f y = some (f', r) ∧ I e y = some (e', r) ∧ Alike f' e' ∧ Step e e' (1 + nT y) 1) :
    ∀ (m j : Nat) (l : List Int) (f : GL13Heap) (e : GHeap), j ≤ t.gKids.length → t.gKids.length - j < m → Alike f e → e.gCells.length + nsum nT (t.gKids.drop j) ≤ 8388608 → l.length = j →
      ∃ l' f' e', pspec_l13Heap_put_L1 k F t m l (j : Int) f = some (.done (l', f')) ∧ pimpl_put_L3 k I t m (j : Int) (GCell.mk a nm b c l) e = some (.done (GCell.mk a nm b c l', e')) ∧ Alike f' e' ∧ Step e e' (nsum nT (t.gKids.drop j)) (t.gKids.length - j) ∧ l'.length = t.gKids.length
  | 0, j, l, f, e, h1, h2, h3, h4, h5 => by omega
  | m + 1, j, l, f, e, h1, h2, h3, h4, h5 => by
    have hm : t.gKids.length ≤ maxLen := by rw [maxLen_eq]; omega
    unfold pspec_l13Heap_put_L1 pimpl_put_L3
    by_cases hlt : j < t.gKids.length
    · rw [ns_drop hlt] at h4 ⊢
      obtain ⟨f', e', r, e1, e2, e3, e4⟩ := hF _ (List.getElem_mem hlt) f e h3 (by omega)
      have e42 := e4.2.1
      obtain ⟨l2, f2, e2', g1, g2, g3, g4, g5⟩ := put_L hx a b c d0 nm hF m (j + 1) (l ++ [r]) f' e' (by omega) (by omega) e3 (by omega) (by simp [h5])
      rw [if_pos (by simpa using hlt), if_pos (by simpa using hlt), at_lt hlt]
      simp only [Option.bind_some, e1, e2]
      rw [if_pos (by simp; omega), if_pos (by simp; omega), wr_succ hlt hm]
      have hst := e4.trans g4
      rw [show 1 + (t.gKids.length - (j + 1)) = t.gKids.length - j by omega] at hst
      exact ⟨l2, f2, e2', g1, g2, g3, hst, g5⟩
    · rw [if_neg (by simpa using hlt), if_neg (by simpa using hlt), List.drop_of_length_le (by omega)]
      exact ⟨l, f, e, rfl, rfl, h3, ⟨rfl, by simp [nsum], by simp [nsum]; omega⟩, by omega⟩

theorem one_cases {t : GTerm} (h : one t = true) : (t.gKind = 1 ∧ t.gName = bs [] ∧ 0 ≤ t.gNum ∧ t.gNum ≤ 99999) ∨ (t.gKind = 2 ∧ t.gNum = 0) ∨ (t.gKind = 3 ∧ t.gName = bs []) ∨ (t.gKind = 4 ∧ t.gNum = 0) := by
  unfold one at h
  by_cases c1 : t.gKind = 1
  · rw [if_pos c1] at h
    simp only [Bool.and_eq_true] at h
    have := of_decide_eq_true (show decide (0 ≤ t.gNum ∧ t.gNum ≤ 99999) = true from h.1)
    exact .inl ⟨c1, sEq_iff.1 h.2.1, this.1, this.2⟩
  rw [if_neg c1] at h
  by_cases c2 : t.gKind = 2
  · rw [if_pos c2] at h
    simp only [Bool.and_eq_true, beq_iff_eq] at h
    exact .inr (.inl ⟨c2, h.2.1⟩)
  rw [if_neg c2] at h
  by_cases c3 : t.gKind = 3
  · rw [if_pos c3] at h
    simp only [Bool.and_eq_true] at h
    exact .inr (.inr (.inl ⟨c3, sEq_iff.1 h.2.1⟩))
  rw [if_neg c3] at h
  by_cases c4 : t.gKind = 4
  · rw [if_pos c4] at h
    simp only [Bool.and_eq_true, beq_iff_eq] at h
    exact .inr (.inr (.inr ⟨c4, h.2.1⟩))
  rw [if_neg c4] at h; cases h

theorem nsum_one {l : List GCell} {c : GCell} : nsum nCell (l ++ [c]) = nsum nCell l + 1 + nCell c := by rw [nsum_append]; simp only [nsum]; omega

theorem gTs_mem {d : Int} : ∀ {l : List GTerm}, gTs d l = true → ∀ y ∈ l, gT d y = true
  | [], _, y, hy => by cases hy
  | x :: l, h, y, hy => by
    rw [gTs] at h
    simp only [Bool.and_eq_true] at h
    rcases List.mem_cons.1 hy with rfl | hy
    · exact h.1
    · exact gTs_mem h.2 y hy

theorem put : ∀ (k : Nat) (t : GTerm), maxLen + 2 * nT t + 2 < k → nT t ≤ 1048576 → (∃ d, gT d t = true) → ∀ f e, Alike f e → e.gCells.length + 1 + nT t ≤ 8388608 →
    ∃ f' e' r, pspec_l13Heap_put k f t = some (f', r) ∧ pimpl_put k e t = some (e', r) ∧ Alike f' e' ∧ Step e e' (1 + nT t) 1
  | 0, t, h => by omega
  | k + 1, t, hw => by
    rintro hn ⟨d, hd⟩ f e hA hl
    have hM := maxLen_eq
    have hk := nT_kids t
    have hlen := nsum_len nT t.gKids
    have hd2 := hd
    rw [gT_eq] at hd2
    simp only [Bool.and_eq_true] at hd2
    have hfl : f.gCells.length ≤ 16777216 := by rw [hA.cells]; omega
    have eta : ∀ x : GL13Heap, GL13Heap.mk x.gCells x.gTrail x.gRefs x.gPairs = x := fun x => rfl
    have one_step : ∀ c : GCell, nCell c = 0 → Step e (GHeap.mk (e.gCells ++ [c]) e.gTrail) (1 + nT t) 1 := fun c hc => ⟨rfl, by simp <;> omega, by show nsum nCell (e.gCells ++ [c]) + 1 ≤ _; rw [nsum_one]; omega⟩
    unfold pspec_l13Heap_put pimpl_put
    rcases one_cases hd2.2.1 with ⟨c1, nm, n0, n1⟩ | ⟨c1, nm⟩ | ⟨c1, nm⟩ | ⟨c1, nm⟩
    · have hr := ref_ok (k := k) hA n0 n1 (by omega) (by omega)
      have l2 := put_L2 (k := k) (f := pimpl_put k) (e := e) (t := t) (by omega) k 0 (by omega) (by omega)
      rw [show ((0 : Nat) : Int) = 0 from rfl, List.drop_zero] at l2
      rw [if_pos (by simpa using c1), if_pos (by simpa using c1), l2]
      by_cases hneg : fr e.gCells t.gNum 0 < 0
      · obtain ⟨g, e1, g1⟩ := hr.1 hneg
        rw [e1, if_pos hneg]
        simp only [Option.bind_some, eta]
        rw [put_J1 (by omega), nm]
        exact ⟨g, _, _, rfl, rfl, g1, one_step _ rfl⟩
      · rw [hr.2 hneg, if_neg hneg]
        simp only [Option.bind_some, eta]
        exact ⟨f, e, _, rfl, rfl, hA, ⟨rfl, by omega, by omega⟩⟩
    · rw [if_neg (by simp [c1]), if_pos (by simp [c1]), if_neg (by simp [c1]), if_neg (by simp [c1]), if_neg (by simp [c1]), add_ok hfl, put_J1 (by omega), nm]
      simp only [Option.bind_some]
      rw [hA.cells]
      have := hA.add (c := GCell.mk 2 t.gName 0 0 []) (show ¬ (2 : Int) = 1 by decide)
      rw [hA.cells] at this
      exact ⟨_, _, _, rfl, rfl, this, one_step _ rfl⟩
    · rw [if_neg (by simp [c1]), if_neg (by simp [c1]), if_pos (by simp [c1]), if_neg (by simp [c1]), if_pos (by simp [c1]), add_ok hfl, put_J1 (by omega), nm]
      simp only [Option.bind_some]
      rw [hA.cells]
      have := hA.add (c := GCell.mk 3 (bs []) t.gNum 0 []) (show ¬ (3 : Int) = 1 by decide)
      rw [hA.cells] at this
      exact ⟨_, _, _, rfl, rfl, this, one_step _ rfl⟩
    · obtain ⟨l', f', e', g1, g2, g3, g4, g5⟩ := put_L (k := k) (t := t) (F := pspec_l13Heap_put k) (I := pimpl_put k) (by omega) 4 t.gNum 0 0 t.gName (fun y hy f e hA hl => by
        have := nsum_mem (n := nT) hy
        exact put k y (by omega) (by omega) ⟨_, gTs_mem hd2.2.2 y hy⟩ f e hA hl) k 0 [] f e (by omega) (by omega) hA (by rw [List.drop_zero]; omega) rfl
      rw [show ((0 : Nat) : Int) = 0 from rfl] at g1 g2
      rw [List.drop_zero, ← hk] at g4
      have g42 := g4.2.1
      have g43 := g4.2.2
      rw [if_neg (by simp [c1]), if_neg (by simp [c1]), if_neg (by simp [c1]), if_neg (by simp [c1]), if_neg (by simp [c1]), if_pos (by simp [c1]), g1, g2]
      simp only [Option.bind_some]
      rw [add_ok (by rw [g3.cells]; omega), put_J1 (by omega), nm]
      simp only [Option.bind_some]
      rw [g3.cells]
      have := g3.add (c := GCell.mk 4 t.gName 0 0 l') (show ¬ (4 : Int) = 1 by decide)
      rw [g3.cells] at this
      refine ⟨_, _, _, rfl, rfl, this, ⟨g4.1, by simp; omega, ?_⟩⟩
      show nsum nCell (e'.gCells ++ [GCell.mk 4 t.gName 0 0 l']) + 1 ≤ _
      have hc : nCell (GCell.mk 4 t.gName 0 0 l') = l'.length := nflat _
      rw [nsum_one, hc]
      omega

theorem copy_same : @pimpl_copyHeap_d = @pimpl_copyHeap := by kernel_rfl
theorem same {k : Nat} {x : GHeap} {t : GTerm} (hx : x.ok) (ht : t.ok) (hn : nHeap x ≤ 1048576) (hnt : nT t ≤ 1048576) (hk : maxLen + 1099511627776 < k) :
    ∃ p, pspec_PutTerm k x t = some p ∧ pimpl_PutTerm k x t = some p ∧ nHeap p.1 ≤ 8388608 := by
  have hM := maxLen_eq
  have hk' : maxLen < k := Nat.lt_of_le_of_lt (Nat.le_add_right _ _) hk
  have hn' : nsum nCell x.gCells + nsum (fun _ => 0) x.gTrail ≤ 1048576 := hn
  have htr := nflat x.gTrail
  have hlen := nsum_len nCell x.gCells
  obtain ⟨g, e1, g1, g2, g3, g4⟩ := l13Of (k := k) (x := x) (by omega) (by omega) hk'
  obtain ⟨bo, h1, h2, h3⟩ := heapOk hx hk'
  have hg : pspec_l13Heap_heap k g = some (g, x) := by rw [heapOf (by rw [g1]; omega) (by rw [g2]; omega), g1, g2]
  have hcp := copyHeap (k := k) (x := x) (by omega) (by omega) hk'
  have hcp2 : pimpl_copyHeap_d k x = some x := by rw [copy_same]; exact hcp
  have h34 := l34Heap (k := k) (x := x) (by omega) (by omega) hk'
  have f1 := spec_TermOk (k := k) (x := t) (by omega) ht
  have f2 := impl_TermOk (k := k) (x := t) (by omega) ht
  have eta : ∀ x : GHeap, GHeap.mk x.gCells x.gTrail = x := fun x => rfl
  have eta2 : ∀ x : GL13Heap, GL13Heap.mk x.gCells x.gTrail x.gRefs x.gPairs = x := fun x => rfl
  have bad : nHeap ((x, -1) : GHeap × Int).1 ≤ 8388608 := by show nHeap x ≤ _; omega
  have J1 : ((pspec_l13PutTermRaw_J1 k x t true).bind fun q => (pspec_l34Heap k (GHeap.mk q.1.gCells q.1.gTrail)).bind fun e => some (e, q.2)) = some (x, -1) := by
    unfold pspec_l13PutTermRaw_J1
    rw [if_pos rfl, e1]
    simp only [Option.bind_some, hg, eta, h34]
  unfold pspec_PutTerm pspec_l13PutTermRaw pimpl_PutTerm
  simp only [f1, f2, h1, h2, Option.bind_some]
  cases htk : tOk t with
  | false =>
    simp only [Bool.not_false, if_true, J1]
    cases bo with
    | false => simp only [Bool.not_false, if_true, hcp, Option.bind_some]; exact ⟨_, rfl, rfl, bad⟩
    | true => simp only [Bool.not_true, Bool.false_eq_true, if_false, hcp, Option.bind_some]; exact ⟨_, rfl, rfl, bad⟩
  | true =>
    simp only [Bool.not_true, Bool.false_eq_true, if_false]
    cases bo with
    | false => simp only [Bool.not_false, if_true, J1, hcp, Option.bind_some]; exact ⟨_, rfl, rfl, bad⟩
    | true =>
      obtain ⟨hc, _⟩ := h3 rfl
      have htk2 := htk
      unfold tOk at htk2
      simp only [Bool.and_eq_true, decide_eq_true_eq] at htk2
      obtain ⟨f', e', r, p1, p2, p3, p4⟩ := put k t (by omega) hnt ⟨1, htk2.2⟩ g x ⟨g1, g2, g3, g4⟩ (by omega)
      simp only [Bool.not_true, Bool.false_eq_true, if_false, hcp2, Option.bind_some, p2]
      unfold pspec_l13PutTermRaw_J1
      rw [if_neg (by simp), e1]
      simp only [Option.bind_some, p1, p3.cells]
      have p41 := p4.1
      have p42 := p4.2.1
      have p43 := p4.2.2
      by_cases hbig : (e'.gCells.length : Int) > 60000
      · rw [if_pos (by simpa using hbig), if_pos (by simpa using hbig)]
        simp only [Option.bind_some, hg, eta, h34, hcp]
        exact ⟨_, rfl, rfl, bad⟩
      · rw [if_neg (by simpa using hbig), if_neg (by simpa using hbig)]
        have hh : pspec_l13Heap_heap k (GL13Heap.mk e'.gCells f'.gTrail f'.gRefs f'.gPairs) = some (GL13Heap.mk e'.gCells f'.gTrail f'.gRefs f'.gPairs, e') := by
          rw [heapOf (by show e'.gCells.length ≤ _; omega) (by show f'.gTrail.length ≤ _; rw [p3.trail, p41]; omega)]
          show some (_, GHeap.mk e'.gCells f'.gTrail) = _
          rw [p3.trail]
        have h34' := l34Heap (k := k) (x := e') (by omega) (by rw [p41]; omega) hk'
        rw [hh]
        simp only [Option.bind_some, eta, h34']
        refine ⟨_, rfl, rfl, ?_⟩
        show nsum nCell e'.gCells + nsum (fun _ => 0) e'.gTrail ≤ _
        rw [p41]; omega

theorem d_same (k : Nat) (x : GHeap) (t : GTerm) : pimpl_PutTerm_d k x t = pimpl_PutTerm k x t := by
  unfold pimpl_PutTerm_d pimpl_PutTerm
  rw [copy_same]

theorem law (x : GHeap) (t : GTerm) (hx : x.ok) (ht : t.ok) : ∃ k, plaws_FnExactPutTerm k x t = some true := by
  obtain ⟨k, hk⟩ : ∃ k, maxLen + 4 * nHeap x + 4 * nT t + 1099511627776 < k := ⟨_, Nat.lt_succ_self _⟩
  refine ⟨k, ?_⟩
  have hm : maxLen = 9223372036854775807 := maxLen_eq
  have hH : Huge = 1152921504606846976 := rfl
  have hw : maxLen + 2 * nHeap x + 2 < k := by omega
  have hw2 : maxLen + 2 * nT t + 2 < k := by omega
  unfold plaws_FnExactPutTerm
  obtain ⟨r, e1, h2, h3⟩ := szHeap (k := k) hw hx 1048576 (by omega) (by unfold Small; omega)
  rw [e1]
  simp only [Option.bind_some]
  by_cases hr : r < 0
  · rw [if_pos (by simpa using hr)]
  rw [if_neg (by simpa using hr)]
  obtain ⟨r2, e12, h22, h32⟩ := szTerm (k := k) hw2 ht r (by omega) (by unfold Small; omega)
  rw [e12]
  simp only [Option.bind_some]
  by_cases hr2 : r2 < 0
  · rw [if_pos (by simpa using hr2)]
  rw [if_neg (by simpa using hr2)]
  have hn : nHeap x ≤ 1048576 := by omega
  have hnt : nT t ≤ 1048576 := by omega
  have t0 := toHeap (k := k) hw hn
  have t1 : plaws_toHeap_d k x = some x := by rw [plaws_toHeap_dd]; exact t0
  have t02 := toTerm (k := k) hw2 hnt
  have t12 : plaws_toTerm_d k t = some t := by rw [plaws_toTerm_dd]; exact t02
  obtain ⟨p, e2, e3, np⟩ := same (k := k) hx ht hn hnt (by omega)
  have e4 : pimpl_PutTerm_d k x t = some p := by rw [d_same]; exact e3
  obtain ⟨u, c, a1, a2, a3, a4, a5⟩ := markHeap (k := k) (x := x) hw 1 (by omega) (by omega)
  obtain ⟨u2, c2, a12, a42, a52⟩ := markTerm (k := k) (x := t) hw2 c (by omega) (by omega)
  obtain ⟨z, d, b1, b2, b3, b4, b5⟩ := markHeap (k := k) (x := p.1) (by omega) 1 (by omega) (by omega)
  have q1 := eqHeap (k := k) (x := p.1) (by omega) (by omega)
  have q2 := eqHeap (k := k) (x := x) hw (by omega)
  have q3 := eqTerm (k := k) (x := t) hw2 (by omega)
  have hc : ∀ c : Int, 1 ≤ c → (decide (c < 0)) = false := fun c h => by simpa using (by omega : 0 ≤ c)
  have eta : ∀ x : GHeap, GHeap.mk x.gCells x.gTrail = x := fun x => rfl
  simp only [t0, t1, t02, t12, e2, e3, e4, eta, q1, q2, q3, a1, a12, b1, b2, b3, hc c2 (by omega), hc d b4, Option.bind_some, Bool.not_true, Bool.false_eq_true, if_false, bne_self_eq_false, beq_self_eq_true]
end FnExactPutTerm
end Go.Proofs.Ytgfpmdaihkdhkaa

/- The law, plainly. -/
import Derived.Test.YtjgagbajgdmocaaFn
set_option linter.unusedVariables false
set_option linter.unusedSimpArgs false
namespace Go.Proofs.Ytjgagbajgdmocaa
open Go.RowKit Go.Bv
namespace FnExactRuleTerm
/-- Room for the marks. -/
theorem markText_loop (k : Nat) : ∀ (j m : Nat) (b : Int) (e : ByteArray), j < m → 0 ≤ b → b < 2 ^ j → j ≤ 61 → e.size + j ≤ 1000 →
    ∃ s, plaws_markText_L1 k m b e = some (.done s) ∧ s.size ≤ 1000
  | j, 0, b, e, h1, _, _, _, _ => by omega
  | 0, m + 1, b, e, h1, h2, h3, h4, h5 => by
    unfold plaws_markText_L1
    rw [if_neg (by simp at h3 ⊢; omega)]
    exact ⟨e, rfl, by omega⟩
  | j + 1, m + 1, b, e, h1, h2, h3, h4, h5 => by
    unfold plaws_markText_L1
    by_cases hb : b > 0
    · have hp : (2 : Int) ^ (j + 1) = 2 * 2 ^ j := by rw [Int.pow_succ]; omega
      have hj : (2 : Int) ^ j ≤ 2 ^ 61 := by
        have : (2 : Nat) ^ j ≤ 2 ^ 61 := Nat.pow_le_pow_right (by omega) (by omega)
        exact_mod_cast this
      have hq : Int.tdiv b 10 = b / 10 := Int.tdiv_eq_ediv_of_nonneg h2
      have hs : (strOfNums [wr.u8 (wr.i64 (48 + (Int.tmod b 10)))]).size = 1 := rfl
      rw [if_pos (by simpa using hb), if_pos (by omega), if_pos (by unfold sumOk; rw [hs]; omega), if_pos (by omega), hq, wr_i64 (by omega) (by omega)]
      exact markText_loop k j m (b / 10) _ (by omega) (by omega) (by omega) (by omega) (by rw [ByteArray.size_append, hs]; omega)
    · rw [if_neg (by simpa using hb)]; exact ⟨e, rfl, by omega⟩

theorem markText {k : Nat} (hk : maxLen < k) (b : Int) (h0 : 0 ≤ b) (h1 : b ≤ Huge) : ∃ s, plaws_markText k b = some s := by
  unfold plaws_markText
  by_cases hb : b ≤ 0
  · rw [if_pos (by simpa using hb)]; exact ⟨_, rfl⟩
  · rw [if_neg (by simpa using hb)]
    rw [maxLen_eq] at hk
    have hH : Huge = 1152921504606846976 := rfl
    have hp : (2 : Int) ^ 61 = 2305843009213693952 := by decide
    obtain ⟨s, h2, h3⟩ := markText_loop k 61 k b (bs []) (by omega) h0 (by rw [hp]; omega) (by omega) (by have : (bs []).size = 0 := rfl; omega)
    rw [h2]
    simp only [Option.bind_some]
    rw [if_pos (by unfold sumOk; have : (bs [109]).size = 1 := rfl; omega)]
    exact ⟨_, rfl⟩
mutual
/-- How many terms stand in a term. -/
def nT : GTerm → Nat
  | .mk _ _ _ l => nTs l
def nTs : List GTerm → Nat
  | [] => 0
  | x :: l => 1 + nT x + nTs l
end
theorem nTs_eq : ∀ l : List GTerm, nTs l = nsum nT l
  | [] => by rw [nTs]; rfl
  | x :: l => by rw [nTs, nsum, nTs_eq l]
theorem nT_kids (x : GTerm) : nT x = nsum nT x.gKids := by
  cases x with
  | mk a b c l => rw [nT, nTs_eq]; rfl

theorem ok_kids {x : GTerm} (h : x.ok) : okL GTerm.ok x.gKids := by cases h with | mk a b c l h1 h2 h3 h4 h5 => exact ⟨h4, h5⟩
theorem ok_name {x : GTerm} (h : x.ok) : okFs x.gName := by cases h with | mk a b c l h1 h2 h3 h4 h5 => exact h2
theorem ok_kind {x : GTerm} (h : x.ok) : okI .i64 x.gKind := by cases h with | mk a b c l h1 h2 h3 h4 h5 => exact h1
theorem ok_num {x : GTerm} (h : x.ok) : okI .i64 x.gNum := by cases h with | mk a b c l h1 h2 h3 h4 h5 => exact h3

theorem mk_gKind (a : Int) (b : ByteArray) (c : Int) (l : List GTerm) : (GTerm.mk a b c l).gKind = a := rfl
theorem mk_gName (a : Int) (b : ByteArray) (c : Int) (l : List GTerm) : (GTerm.mk a b c l).gName = b := rfl
theorem mk_gNum (a : Int) (b : ByteArray) (c : Int) (l : List GTerm) : (GTerm.mk a b c l).gNum = c := rfl
theorem mk_gKids (a : Int) (b : ByteArray) (c : Int) (l : List GTerm) : (GTerm.mk a b c l).gKids = l := rfl
theorem eqBoth : ∀ k : Nat, (∀ l, maxLen + 2 * nsum nT l + 1 < k → nsum nT l ≤ Huge → plaws_eqTermS k l l = some true) ∧ (∀ x, maxLen + 2 * nT x + 2 < k → nT x ≤ Huge → plaws_eqTerm k x x = some true)
  | 0 => ⟨fun l h => by omega, fun x h => by omega⟩
  | k + 1 => by
    obtain ⟨ih1, ih2⟩ := eqBoth k
    refine ⟨?_, ?_⟩
    · intro l hw hl
      have := nsum_len nT l
      exact eq2 (f := plaws_eqTerm k) (L := plaws_eqTermS_L1 k (plaws_eqTerm k) (plaws_eqTermS k) l l) (by omega) (fun x hx => by have := nsum_mem (n := nT) hx; exact ih2 x (by omega) (by omega)) (fun m i => rfl) (by omega)
    · intro x hw hx
      have hk := nT_kids x
      unfold plaws_eqTerm
      rw [ih1 x.gKids (by omega) (by omega)]
      simp [sEq_refl]
theorem eqTermS {k : Nat} {l : List GTerm} (hw : maxLen + 2 * nsum nT l + 2 < k) (hl : nsum nT l ≤ Huge) : plaws_eqTermS k l l = some true := (eqBoth k).1 l (by omega) hl
theorem eqTerm {k : Nat} {x : GTerm} (hw : maxLen + 2 * nT x + 2 < k) (hl : nT x ≤ Huge) : plaws_eqTerm k x x = some true := (eqBoth k).2 x hw hl
theorem markTermS1 : ∀ (k : Nat) (l : List GTerm), maxLen + 2 * nsum nT l + 1 < k → ∀ b : Int, 1 ≤ b → b + 8 * (nsum nT l : Int) ≤ Huge →
    ∃ l' c, plaws_markTermS k l b = some (l', c) ∧ plaws_heldTermS k l' b = some c ∧ b ≤ c ∧ c ≤ b + 8 * (nsum nT l : Int)
  | 0, l, h => by omega
  | k + 1, l, hw => by
    intro b h1 h2
    have hH : Huge = 1152921504606846976 := rfl
    have key := mark2 (n := nT) (ok := fun x => maxLen + 2 * nT x + 1 < k)
      (good := fun b x c => 1 ≤ b ∧ b ≤ c ∧ c ≤ Huge ∧ x.gKind = b ∧ plaws_markText k (b + 1) = some x.gName ∧ x.gNum = b + 2 ∧ b + 3 ≤ Huge ∧ plaws_heldTermS k x.gKids (b + 3) = some c)
      (L := plaws_markTermS_L1 k (plaws_markTermS k)) (H := plaws_heldTermS_L1 k (plaws_heldTermS k))
      (fun m b l => by unfold plaws_markTermS_L1; rw [if_neg (by simp)])
      (fun m b j l x hx hj hat h1 h2 => by
        have hk := nT_kids x
        obtain ⟨s, hs⟩ := markText (k := k) (by omega) (b + 1) (by omega) (by omega)
        obtain ⟨l', c, e1, e2, e3, e4⟩ := markTermS1 k x.gKids (by omega) (b + 3) (by omega) (by omega)
        refine ⟨.mk b s (b + 2) l', c, ⟨h1, by omega, by omega, rfl, hs, rfl, by omega, e2⟩, by omega, by omega, fun hlt => ?_⟩
        have w1 : wr.i64 (b + 1) = b + 1 := by have := wr_i64 (x := b + 1) (by omega) (by omega); omega
        have w2 : wr.i64 (b + 1 + 1) = b + 2 := by have := wr_i64 (x := b + 1 + 1) (by omega) (by omega); omega
        have w3 : wr.i64 (b + 2 + 1) = b + 3 := by have := wr_i64 (x := b + 2 + 1) (by omega) (by omega); omega
        have hset : ∀ (l : List GTerm) (y z : GTerm), at' l (j : Int) = some y → at' (l.set ((j : Int)).toNat z) (j : Int) = some z := fun l y z h => at_is h
        rw [plaws_markTermS_L1, if_pos (by simpa using hlt), hat]
        simp only [Option.bind_some, w1, w2, w3, hs]
        rw [hset _ _ _ hat]
        simp only [Option.bind_some]
        rw [hset _ _ _ (hset _ _ _ hat)]
        simp only [Option.bind_some]
        rw [hset _ _ _ (hset _ _ _ (hset _ _ _ hat))]
        simp only [Option.bind_some, mk_gKids, mk_gKind, mk_gName, mk_gNum]
        simp only [e1, Option.bind_some, cast_succ hj, List.set_set, Int.toNat_natCast])
      (fun l m b => by unfold plaws_heldTermS_L1; rw [if_neg (by simp)])
      (fun l m b c j x hj hat hg hlt => by
        obtain ⟨h1, h2, h3, h4, h5, h6, h7, h8⟩ := hg
        have w1 : wr.i64 (b + 1) = b + 1 := by have := wr_i64 (x := b + 1) (by omega) (by omega); omega
        have w2 : wr.i64 (b + 1 + 1) = b + 2 := by have := wr_i64 (x := b + 1 + 1) (by omega) (by omega); omega
        have w3 : wr.i64 (b + 2 + 1) = b + 3 := by have := wr_i64 (x := b + 2 + 1) (by omega) (by omega); omega
        rw [plaws_heldTermS_L1, if_pos (by simpa using hlt), hat]
        simp only [Option.bind_some, w1, w2, w3]
        rw [if_neg (by simp [h4]), h5]
        simp only [Option.bind_some]
        rw [if_neg (by simp [sEq_refl]), if_neg (by simp [h6]), h8]
        simp only [Option.bind_some]
        rw [if_neg (by simp; omega), cast_succ hj])
      (k := k) (by omega) l (fun x hx => by have := nsum_mem (n := nT) hx; omega) b h1 h2
    obtain ⟨l', c, e1, e2, e3, e4⟩ := key
    refine ⟨l', c, ?_, ?_, e3, e4⟩
    · unfold plaws_markTermS; rw [e1]; rfl
    · unfold plaws_heldTermS; rw [e2]; rfl
theorem markTermS {k : Nat} {l : List GTerm} (hw : maxLen + 2 * nsum nT l + 2 < k) (b : Int) (h1 : 1 ≤ b) (h2 : b + 8 * (nsum nT l : Int) ≤ Huge) :
    ∃ l' c, plaws_markTermS k l b = some (l', c) ∧ plaws_heldTermS k l' b = some c ∧ b ≤ c ∧ c ≤ b + 8 * (nsum nT l : Int) := markTermS1 k l (by omega) b h1 h2
theorem markTerm {k : Nat} {x : GTerm} (hw : maxLen + 2 * nT x + 2 < k) (b : Int) (h1 : 1 ≤ b) (h2 : b + 8 * (nT x : Int) ≤ Huge) :
    ∃ y c, plaws_markTerm k x b = some (y, c) ∧ plaws_heldTerm k (GTerm.mk x.gKind x.gName x.gNum y.gKids) b = some c ∧ plaws_heldTerm k y b = some c ∧ b ≤ c ∧ c ≤ b + 8 * (nT x : Int) := by
  have hk := nT_kids x
  obtain ⟨l', c, e1, e2, e3, e4⟩ := markTermS (k := k) (l := x.gKids) (by omega) b h1 (by omega)
  have hh : plaws_heldTerm k (.mk x.gKind x.gName x.gNum l') b = some c := by
    unfold plaws_heldTerm
    rw [show (GTerm.mk x.gKind x.gName x.gNum l').gKids = l' from rfl, e2]
    simp only [Option.bind_some]
    rw [if_neg (by simp; omega)]
  refine ⟨.mk x.gKind x.gName x.gNum l', c, ?_, hh, hh, e3, by omega⟩
  unfold plaws_markTerm; rw [e1]; rfl
def nPart (x : GPart) : Nat := 0

theorem szPart {k : Nat} {x : GPart} (hw : maxLen + 2 * (nPart x) + 2 < k) (hx : x.ok) (b : Int) (h0 : 0 ≤ b) (h1 : b ≤ Small) : ∃ r, plaws_szPart k x b = some r ∧ -1 ≤ r ∧ (0 ≤ r → r + (nPart x : Int) ≤ b) := by
  unfold nPart at *
  unfold plaws_szPart
  have hS : Small = 1048576 := rfl
  have hs1 : x.gName.size ≤ 9223372036854775807 := by have := hx.2; unfold okFs at this; rw [maxLen_eq] at this; exact this
  have hr1 : wr.i64 (b - (x.gName.size : Int)) = (b - (x.gName.size : Int)) := wr_i64 (by omega) (by omega)
  rw [hr1]
  by_cases c1 : (b - (x.gName.size : Int)) < 0
  · rw [if_pos (by simpa using c1)]; exact ⟨_, rfl, by omega, by omega⟩
  rw [if_neg (by simpa using c1)]
  exact ⟨_, rfl, by omega, fun h => by omega⟩

theorem toPart {k : Nat} {x : GPart} (hw : maxLen + 2 * (nPart x) + 2 < k) (hx : nPart x ≤ 1048576) : plaws_toPart k x = some x := by
  unfold nPart at *
  unfold plaws_toPart
  rfl

theorem eqPart {k : Nat} {x : GPart} (hw : maxLen + 2 * (nPart x) + 2 < k) (hx : nPart x ≤ Huge) : plaws_eqPart k x x = some true := by
  unfold nPart at *
  unfold plaws_eqPart
  simp [sEq_refl]

theorem szPartS {k : Nat} {l : List GPart} (hw : maxLen + 2 * (nsum nPart l) + 2 < k) (hl : okL (GPart.ok) l) (b : Int) (h0 : 0 ≤ b) (h1 : b ≤ Small) : ∃ r, plaws_szPartS k l b = some r ∧ -1 ≤ r ∧ (0 ≤ r → r + (nsum nPart l : Int) ≤ b) := by
  exact sz2 (f := plaws_szPart k) (L := plaws_szPartS_L1 k l) hl.1 (fun x hx b h0 h1 => by have := nsum_mem (n := nPart) hx; exact szPart (by omega) (hl.2 x hx) b h0 h1) (fun m b i => rfl) (by omega) b h0 h1

theorem toPartS {k : Nat} {l : List GPart} (hw : maxLen + 2 * (nsum nPart l) + 2 < k) (hl : nsum nPart l ≤ 1048576) : plaws_toPartS k l = some l := by
  have := nsum_len nPart l
  have h := to2 (f := plaws_toPart k) (L := plaws_toPartS_L1 k l) (by omega) (fun x hx => by have := nsum_mem (n := nPart) hx; exact toPart (by omega) (by omega)) (fun m i o => rfl) (k := k) (by omega) (GPart.mk false (bs []))
  unfold plaws_toPartS
  rw [if_pos h.1, h.2]; rfl

theorem plaws_toPartS_dd : @plaws_toPartS_d = @plaws_toPartS := by kernel_rfl

theorem eqPartS {k : Nat} {l : List GPart} (hw : maxLen + 2 * (nsum nPart l) + 2 < k) (hl : nsum nPart l ≤ Huge) : plaws_eqPartS k l l = some true := by
  have := nsum_len nPart l
  exact eq2 (f := plaws_eqPart k) (L := plaws_eqPartS_L1 k l l) (by omega) (fun x hx => by have := nsum_mem (n := nPart) hx; exact eqPart (by omega) (by omega)) (fun m i => rfl) (k := k) (by omega)

theorem markPartS {k : Nat} {l : List GPart} (hw : maxLen + 2 * (nsum nPart l) + 2 < k) (b : Int) (h1 : 1 ≤ b) (h2 : b + 8 * (nsum nPart l : Int) ≤ Huge) :
    ∃ l' c, plaws_markPartS k l b = some (l', c) ∧ b ≤ c ∧ c ≤ b + 8 * (nsum nPart l : Int) := by
  have hm : maxLen = 9223372036854775807 := maxLen_eq
  have hH : Huge = 1152921504606846976 := rfl
  have h3 : (if (3 : Int) ≠ 0 then True else False) = True := by decide
  have hlen := nsum_len nPart l
  have key := mark1 (n := nPart) (ok := fun x => maxLen + 2 * (nPart x) + 2 < k)

    (L := plaws_markPartS_L1 k)
    (fun m b l => by unfold plaws_markPartS_L1; rw [if_neg (by simp)])
    (fun m b j l x hx hj hat h1 h2 => by
      unfold nPart at *
      obtain ⟨s1, t1⟩ := markText (k := k) (by omega) (b + 1) (by omega) (by omega)
      refine ⟨(GPart.mk (Int.tmod b 3 == 0) s1), (b + 2), (by omega), (by omega), fun hlt => ?_⟩
      have w0 : wr.i64 (b + 1) = b + 1 := by have := wr_i64 (x := b + 1) (by omega) (by omega); omega
      have w1 : wr.i64 (b + 1 + 1) = b + 2 := by have := wr_i64 (x := b + 1 + 1) (by omega) (by omega); omega
      have hat' : (at' l (j : Int)).isSome = true := by rw [hat]; rfl
      rw [plaws_markPartS_L1, if_pos (by simpa using hlt)]
      simp only [hat, hat', Option.isSome_some, Option.bind_some, w0, w1, t1, at_set, at_set_some, cast_succ hj, List.set_set, Int.toNat_natCast, if3])
    (k := k) (by omega) l (fun x hx => by have := nsum_mem (n := nPart) hx; omega) b h1 h2
  obtain ⟨l', c, e1, e3, e4⟩ := key
  refine ⟨l', c, ?_, e3, e4⟩
  unfold plaws_markPartS; rw [e1]; rfl

def nRule (x : GRule) : Nat := nsum nPart x.gParts

theorem szRule {k : Nat} {x : GRule} (hw : maxLen + 2 * (nRule x) + 2 < k) (hx : x.ok) (b : Int) (h0 : 0 ≤ b) (h1 : b ≤ Small) : ∃ r, plaws_szRule k x b = some r ∧ -1 ≤ r ∧ (0 ≤ r → r + (nRule x : Int) ≤ b) := by
  unfold nRule at *
  unfold plaws_szRule
  have hS : Small = 1048576 := rfl
  have hs1 : x.gName.size ≤ 9223372036854775807 := by have := hx.1; unfold okFs at this; rw [maxLen_eq] at this; exact this
  have hr1 : wr.i64 (b - (x.gName.size : Int)) = (b - (x.gName.size : Int)) := wr_i64 (by omega) (by omega)
  rw [hr1]
  by_cases c1 : (b - (x.gName.size : Int)) < 0
  · rw [if_pos (by simpa using c1)]; exact ⟨_, rfl, by omega, by omega⟩
  rw [if_neg (by simpa using c1)]
  obtain ⟨r2, e2, l2, u2⟩ := szPartS (k := k) (l := x.gParts) (by omega) hx.2 (b - (x.gName.size : Int)) (by omega) (by omega)
  rw [e2]
  simp only [Option.bind_some]
  by_cases c2 : r2 < 0
  · rw [if_pos (by simpa using c2)]; exact ⟨_, rfl, by omega, by omega⟩
  rw [if_neg (by simpa using c2)]
  exact ⟨_, rfl, by omega, fun h => by omega⟩

theorem toRule {k : Nat} {x : GRule} (hw : maxLen + 2 * (nRule x) + 2 < k) (hx : nRule x ≤ 1048576) : plaws_toRule k x = some x := by
  unfold nRule at *
  unfold plaws_toRule
  rw [toPartS (k := k) (l := x.gParts) (by omega) (by omega)]
  simp only [Option.bind_some]

theorem plaws_toRule_dd : @plaws_toRule_d = @plaws_toRule := by kernel_rfl

theorem eqRule {k : Nat} {x : GRule} (hw : maxLen + 2 * (nRule x) + 2 < k) (hx : nRule x ≤ Huge) : plaws_eqRule k x x = some true := by
  unfold nRule at *
  unfold plaws_eqRule
  rw [eqPartS (k := k) (l := x.gParts) (by omega) (by omega)]
  simp [sEq_refl]

theorem markRule {k : Nat} {x : GRule} (hw : maxLen + 2 * (nRule x) + 2 < k) (b : Int) (h1 : 1 ≤ b) (h2 : b + 8 * (nRule x : Int) ≤ Huge) :
    ∃ y c, plaws_markRule k x b = some (y, c) ∧ b ≤ c ∧ c ≤ b + 8 * (nRule x : Int) := by
  unfold nRule at *
  obtain ⟨y0, c0, e0, l0, u0⟩ := markPartS (k := k) (l := x.gParts) (by omega) b (by omega) (by omega)
  have hc : ∀ c : Int, 1 ≤ c → (decide (c < 0)) = false := fun c h => by simpa using (by omega : 0 ≤ c)
  refine ⟨GRule.mk x.gName y0, c0, ?_, (by omega), (by omega)⟩
  · unfold plaws_markRule; simp only [e0, Option.bind_some]
theorem loop (k : Nat) (d : GRule) (hl : d.gParts.length ≤ 1048576) : ∀ (j m : Nat) (f : GTerm), j ≤ d.gParts.length → j < m →
    ∃ t, pimpl_RuleTerm_L1 k d m ((j : Int) - 1) f = some (.done t) ∧ nT t ≤ nT f + 8 * j
  | j, 0, f, h1, h2 => by omega
  | 0, m + 1, f, h1, h2 => by
    unfold pimpl_RuleTerm_L1
    rw [if_neg (by simp)]
    exact ⟨f, rfl, by omega⟩
  | j + 1, m + 1, f, h1, h2 => by
    have ei : ((j + 1 : Nat) : Int) - 1 = (j : Int) := by omega
    have hw : wr.i64 ((j : Int) - 1) = (j : Int) - 1 := wr_i64 (by omega) (by omega)
    have J2 : ∀ g : GTerm, nT g ≤ 2 → ∃ t, pimpl_RuleTerm_J2 k (pimpl_RuleTerm_L1 k d m) (j : Int) d f g = some (.done t) ∧ nT t ≤ nT f + 8 * (j + 1) := by
      intro g hg
      unfold pimpl_RuleTerm_J2
      rw [hw]
      split
      · obtain ⟨t, e, h⟩ := loop k d hl j m g (by omega) (by omega)
        exact ⟨t, e, by omega⟩
      · simp only [pimpl_structure, Option.bind_some]
        obtain ⟨t, e, h⟩ := loop k d hl j m (.mk 4 (bs [44]) 0 [g, f]) (by omega) (by omega)
        refine ⟨t, e, ?_⟩
        simp only [nT, nTs] at h
        omega
    rw [ei]
    unfold pimpl_RuleTerm_L1
    rw [if_pos (by simp), at_lt (show j < d.gParts.length by omega)]
    simp only [pimpl_atom, pimpl_structure, Option.bind_some]
    split
    · exact J2 _ (by simp only [nT, nTs]; omega)
    · exact J2 _ (by simp only [nT, nTs]; omega)

theorem total (k : Nat) (d : GRule) (hl : d.gParts.length ≤ 1048576) (hk : maxLen < k) : ∃ t, pimpl_RuleTerm k d = some t ∧ nT t ≤ 8388620 := by
  have hm : maxLen = 9223372036854775807 := maxLen_eq
  unfold pimpl_RuleTerm
  obtain ⟨t, e, h⟩ := loop k d hl d.gParts.length k (.mk 2 (bs [91, 93]) 0 []) (Nat.le_refl _) (by omega)
  simp only [pimpl_atom, pimpl_structure, Option.bind_some, wr_i64 (show -9223372036854775808 ≤ (d.gParts.length : Int) - 1 by omega) (by omega), e]
  refine ⟨_, rfl, ?_⟩
  simp only [nT, nTs] at h ⊢
  omega

theorem spec_same : @pspec_RuleTerm = @pimpl_RuleTerm := by kernel_rfl
theorem d_same : @pimpl_RuleTerm_d = @pimpl_RuleTerm := by kernel_rfl

theorem law (x : GRule) (hx : x.ok) : ∃ k, plaws_FnExactRuleTerm k x = some true := by
  obtain ⟨k, hk⟩ : ∃ k, maxLen + 2 * nRule x + 1099511627776 < k := ⟨_, Nat.lt_succ_self _⟩
  refine ⟨k, ?_⟩
  have hm : maxLen = 9223372036854775807 := maxLen_eq
  have hH : Huge = 1152921504606846976 := rfl
  have hw : maxLen + 2 * nRule x + 2 < k := by omega
  unfold plaws_FnExactRuleTerm
  obtain ⟨r, e1, h2, h3⟩ := szRule (k := k) hw hx 1048576 (by omega) (by unfold Small; omega)
  rw [e1]
  simp only [Option.bind_some]
  by_cases hr : r < 0
  · rw [if_pos (by simpa using hr)]
  · rw [if_neg (by simpa using hr)]
    have hn : nRule x ≤ 1048576 := by omega
    have t0 := toRule (k := k) hw hn
    have t1 : plaws_toRule_d k x = some x := by rw [plaws_toRule_dd]; exact t0
    have hl : x.gParts.length ≤ 1048576 := by have := nsum_len nPart x.gParts; unfold nRule at hn; omega
    obtain ⟨t, e2, hn2⟩ := total k x hl (by omega)
    have e3 : pspec_RuleTerm k x = some t := by rw [spec_same]; exact e2
    have e4 : pimpl_RuleTerm_d k x = some t := by rw [d_same]; exact e2
    obtain ⟨y, c, a1, a4, a5⟩ := markRule (k := k) (x := x) hw 1 (by omega) (by omega)
    obtain ⟨z, d, b1, b2, b3, b4, b5⟩ := markTerm (k := k) (x := t) (by omega) 1 (by omega) (by omega)
    have q1 := eqTerm (k := k) (x := t) (by omega) (by omega)
    have q2 := eqRule (k := k) (x := x) hw (by omega)
    have hc : ∀ c : Int, 1 ≤ c → (decide (c < 0)) = false := fun c h => by simpa using (by omega : 0 ≤ c)
    simp only [t0, t1, e2, e3, e4, q1, q2, a1, b1, b2, hc c a4, hc d b4, Option.bind_some, Bool.not_true, Bool.false_eq_true, if_false, bne_self_eq_false]
end FnExactRuleTerm
end Go.Proofs.Ytjgagbajgdmocaa

/- The law, plainly. -/
import Derived.Test.YtbfkmgenokhkgaaFn
set_option linter.unusedVariables false
set_option linter.unusedSimpArgs false
namespace Go.Proofs.Ytbfkmgenokhkgaa
open Go.RowKit Go.Bv
namespace FnExactWordsOf
/-- Room for the marks. -/
theorem markText_loop (k : Nat) : ∀ (j m : Nat) (b : Int) (e : ByteArray), j < m → 0 ≤ b → b < 2 ^ j → j ≤ 61 → e.size + j ≤ 1000 →
    ∃ s, plaws_markText_L1 k m b e = some (.done s) ∧ s.size ≤ 1000
  | j, 0, b, e, h1, _, _, _, _ => by omega
  | 0, m + 1, b, e, h1, h2, h3, h4, h5 => by
    unfold plaws_markText_L1
    rw [if_neg (by simp at h3 ⊢; omega)]
    exact ⟨e, rfl, by omega⟩
  | j + 1, m + 1, b, e, h1, h2, h3, h4, h5 => by
    unfold plaws_markText_L1
    by_cases hb : b > 0
    · have hp : (2 : Int) ^ (j + 1) = 2 * 2 ^ j := by rw [Int.pow_succ]; omega
      have hj : (2 : Int) ^ j ≤ 2 ^ 61 := by
        have : (2 : Nat) ^ j ≤ 2 ^ 61 := Nat.pow_le_pow_right (by omega) (by omega)
        exact_mod_cast this
      have hq : Int.tdiv b 10 = b / 10 := Int.tdiv_eq_ediv_of_nonneg h2
      have hs : (strOfNums [wr.u8 (wr.i64 (48 + (Int.tmod b 10)))]).size = 1 := rfl
      rw [if_pos (by simpa using hb), if_pos (by omega), if_pos (by unfold sumOk; rw [hs]; omega), if_pos (by omega), hq, wr_i64 (by omega) (by omega)]
      exact markText_loop k j m (b / 10) _ (by omega) (by omega) (by omega) (by omega) (by rw [ByteArray.size_append, hs]; omega)
    · rw [if_neg (by simpa using hb)]; exact ⟨e, rfl, by omega⟩

theorem markText {k : Nat} (hk : maxLen < k) (b : Int) (h0 : 0 ≤ b) (h1 : b ≤ Huge) : ∃ s, plaws_markText k b = some s := by
  unfold plaws_markText
  by_cases hb : b ≤ 0
  · rw [if_pos (by simpa using hb)]; exact ⟨_, rfl⟩
  · rw [if_neg (by simpa using hb)]
    rw [maxLen_eq] at hk
    have hH : Huge = 1152921504606846976 := rfl
    have hp : (2 : Int) ^ 61 = 2305843009213693952 := by decide
    obtain ⟨s, h2, h3⟩ := markText_loop k 61 k b (bs []) (by omega) h0 (by rw [hp]; omega) (by omega) (by have : (bs []).size = 0 := rfl; omega)
    rw [h2]
    simp only [Option.bind_some]
    rw [if_pos (by unfold sumOk; have : (bs [109]).size = 1 := rfl; omega)]
    exact ⟨_, rfl⟩
mutual
/-- How many terms stand in a term. -/
def nT : GTerm → Nat
  | .mk _ _ _ l => nTs l
def nTs : List GTerm → Nat
  | [] => 0
  | x :: l => 1 + nT x + nTs l
end
theorem nTs_eq : ∀ l : List GTerm, nTs l = nsum nT l
  | [] => by rw [nTs]; rfl
  | x :: l => by rw [nTs, nsum, nTs_eq l]
theorem nT_kids (x : GTerm) : nT x = nsum nT x.gKids := by
  cases x with
  | mk a b c l => rw [nT, nTs_eq]; rfl

theorem ok_kids {x : GTerm} (h : x.ok) : okL GTerm.ok x.gKids := by cases h with | mk a b c l h1 h2 h3 h4 h5 => exact ⟨h4, h5⟩
theorem ok_name {x : GTerm} (h : x.ok) : okFs x.gName := by cases h with | mk a b c l h1 h2 h3 h4 h5 => exact h2
theorem ok_kind {x : GTerm} (h : x.ok) : okI .i64 x.gKind := by cases h with | mk a b c l h1 h2 h3 h4 h5 => exact h1
theorem ok_num {x : GTerm} (h : x.ok) : okI .i64 x.gNum := by cases h with | mk a b c l h1 h2 h3 h4 h5 => exact h3

theorem mk_gKind (a : Int) (b : ByteArray) (c : Int) (l : List GTerm) : (GTerm.mk a b c l).gKind = a := rfl
theorem mk_gName (a : Int) (b : ByteArray) (c : Int) (l : List GTerm) : (GTerm.mk a b c l).gName = b := rfl
theorem mk_gNum (a : Int) (b : ByteArray) (c : Int) (l : List GTerm) : (GTerm.mk a b c l).gNum = c := rfl
theorem mk_gKids (a : Int) (b : ByteArray) (c : Int) (l : List GTerm) : (GTerm.mk a b c l).gKids = l := rfl
theorem szBoth : ∀ N k : Nat,
    (∀ l, maxLen + 2 * nsum nT l + 1 < k → nsum nT l ≤ N → okL GTerm.ok l → ∀ b : Int, 0 ≤ b → b ≤ Small → ∃ r, plaws_szTermS k l b = some r ∧ -1 ≤ r ∧ (0 ≤ r → r + (nsum nT l : Int) ≤ b)) ∧
    (∀ x, maxLen + 2 * nT x + 2 < k → nT x ≤ N → x.ok → ∀ b : Int, 0 ≤ b → b ≤ Small → ∃ r, plaws_szTerm k x b = some r ∧ -1 ≤ r ∧ (0 ≤ r → r + (nT x : Int) ≤ b))
  | N, 0 => ⟨fun l h => by omega, fun x h => by omega⟩
  | N, k + 1 => by
    obtain ⟨ih1, ih2⟩ := szBoth N k
    refine ⟨?_, ?_⟩
    · intro l hw hN hl b h0 h1
      exact sz2 (f := plaws_szTerm k) (L := plaws_szTermS_L1 k (plaws_szTerm k) (plaws_szTermS k) l) hl.1 (fun x hx b h0 h1 => by have := nsum_mem (n := nT) hx; exact ih2 x (by omega) (by omega) (hl.2 x hx) b h0 h1) (fun m b i => rfl) (by omega) b h0 h1
    · intro x hw hN hx b h0 h1
      have hn := ok_name hx
      unfold okFs at hn
      have h1' := h1
      unfold Small at h1'
      rw [maxLen_eq] at hn
      have hk := nT_kids x
      unfold plaws_szTerm
      rw [wr_i64 (by omega) (by omega)]
      split
      · exact ⟨_, rfl, by omega, by omega⟩
      · rename_i h
        simp at h
        obtain ⟨r, h2, h3, h4⟩ := ih1 x.gKids (by omega) (by omega) (ok_kids hx) (b - (x.gName.size : Int)) (by omega) (by unfold Small; omega)
        rw [h2]
        simp only [Option.bind_some]
        split
        · exact ⟨_, rfl, by omega, by omega⟩
        · exact ⟨_, rfl, h3, by omega⟩
theorem szTermS {k : Nat} {l : List GTerm} (hw : maxLen + 2 * nsum nT l + 2 < k) (hl : okL GTerm.ok l) (b : Int) (h0 : 0 ≤ b) (h1 : b ≤ Small) : ∃ r, plaws_szTermS k l b = some r ∧ -1 ≤ r ∧ (0 ≤ r → r + (nsum nT l : Int) ≤ b) :=
  (szBoth (nsum nT l) k).1 l (by omega) (Nat.le_refl _) hl b h0 h1
theorem szTerm {k : Nat} {x : GTerm} (hw : maxLen + 2 * nT x + 2 < k) (hx : x.ok) (b : Int) (h0 : 0 ≤ b) (h1 : b ≤ Small) : ∃ r, plaws_szTerm k x b = some r ∧ -1 ≤ r ∧ (0 ≤ r → r + (nT x : Int) ≤ b) :=
  (szBoth (nT x) k).2 x hw (Nat.le_refl _) hx b h0 h1

theorem toBoth : ∀ k : Nat, (∀ l, maxLen + 2 * nsum nT l + 1 < k → nsum nT l ≤ 1048576 → plaws_toTermS k l = some l) ∧ (∀ x, maxLen + 2 * nT x + 2 < k → nT x ≤ 1048576 → plaws_toTerm k x = some x)
  | 0 => ⟨fun l h => by omega, fun x h => by omega⟩
  | k + 1 => by
    obtain ⟨ih1, ih2⟩ := toBoth k
    refine ⟨?_, ?_⟩
    · intro l hw hl
      have := nsum_len nT l
      have h := to2 (f := plaws_toTerm k) (L := plaws_toTermS_L1 k (plaws_toTerm k) (plaws_toTermS k) l) (by omega) (fun x hx => by have := nsum_mem (n := nT) hx; exact ih2 x (by omega) (by omega)) (fun m i o => rfl) (k := k) (by omega) (GTerm.mk 0 (bs []) 0 [])
      unfold plaws_toTermS
      rw [if_pos h.1, h.2]; rfl
    · intro x hw hx
      have hk := nT_kids x
      unfold plaws_toTerm
      rw [ih1 x.gKids (by omega) (by omega)]
      cases x; rfl
theorem toTermS {k : Nat} {l : List GTerm} (hw : maxLen + 2 * nsum nT l + 2 < k) (hl : nsum nT l ≤ 1048576) : plaws_toTermS k l = some l := (toBoth k).1 l (by omega) hl
theorem toTerm {k : Nat} {x : GTerm} (hw : maxLen + 2 * nT x + 2 < k) (hl : nT x ≤ 1048576) : plaws_toTerm k x = some x := (toBoth k).2 x hw hl

theorem eqBoth : ∀ k : Nat, (∀ l, maxLen + 2 * nsum nT l + 1 < k → nsum nT l ≤ Huge → plaws_eqTermS k l l = some true) ∧ (∀ x, maxLen + 2 * nT x + 2 < k → nT x ≤ Huge → plaws_eqTerm k x x = some true)
  | 0 => ⟨fun l h => by omega, fun x h => by omega⟩
  | k + 1 => by
    obtain ⟨ih1, ih2⟩ := eqBoth k
    refine ⟨?_, ?_⟩
    · intro l hw hl
      have := nsum_len nT l
      exact eq2 (f := plaws_eqTerm k) (L := plaws_eqTermS_L1 k (plaws_eqTerm k) (plaws_eqTermS k) l l) (by omega) (fun x hx => by have := nsum_mem (n := nT) hx; exact ih2 x (by omega) (by omega)) (fun m i => rfl) (by omega)
    · intro x hw hx
      have hk := nT_kids x
      unfold plaws_eqTerm
      rw [ih1 x.gKids (by omega) (by omega)]
      simp [sEq_refl]
theorem eqTermS {k : Nat} {l : List GTerm} (hw : maxLen + 2 * nsum nT l + 2 < k) (hl : nsum nT l ≤ Huge) : plaws_eqTermS k l l = some true := (eqBoth k).1 l (by omega) hl
theorem eqTerm {k : Nat} {x : GTerm} (hw : maxLen + 2 * nT x + 2 < k) (hl : nT x ≤ Huge) : plaws_eqTerm k x x = some true := (eqBoth k).2 x hw hl
theorem markTermS1 : ∀ (k : Nat) (l : List GTerm), maxLen + 2 * nsum nT l + 1 < k → ∀ b : Int, 1 ≤ b → b + 8 * (nsum nT l : Int) ≤ Huge →
    ∃ l' c, plaws_markTermS k l b = some (l', c) ∧ b ≤ c ∧ c ≤ b + 8 * (nsum nT l : Int)
  | 0, l, h => by omega
  | k + 1, l, hw => by
    intro b h1 h2
    have hH : Huge = 1152921504606846976 := rfl
    have key := mark1 (n := nT) (ok := fun x => maxLen + 2 * nT x + 1 < k)
      (L := plaws_markTermS_L1 k (plaws_markTermS k))
      (fun m b l => by unfold plaws_markTermS_L1; rw [if_neg (by simp)])
      (fun m b j l x hx hj hat h1 h2 => by
        have hk := nT_kids x
        obtain ⟨s, hs⟩ := markText (k := k) (by omega) (b + 1) (by omega) (by omega)
        obtain ⟨l', c, e1, e3, e4⟩ := markTermS1 k x.gKids (by omega) (b + 3) (by omega) (by omega)
        refine ⟨.mk b s (b + 2) l', c, (by omega), (by omega), fun hlt => ?_⟩
        have w1 : wr.i64 (b + 1) = b + 1 := by have := wr_i64 (x := b + 1) (by omega) (by omega); omega
        have w2 : wr.i64 (b + 1 + 1) = b + 2 := by have := wr_i64 (x := b + 1 + 1) (by omega) (by omega); omega
        have w3 : wr.i64 (b + 2 + 1) = b + 3 := by have := wr_i64 (x := b + 2 + 1) (by omega) (by omega); omega
        have hset : ∀ (l : List GTerm) (y z : GTerm), at' l (j : Int) = some y → at' (l.set ((j : Int)).toNat z) (j : Int) = some z := fun l y z h => at_is h
        rw [plaws_markTermS_L1, if_pos (by simpa using hlt), hat]
        simp only [Option.bind_some, w1, w2, w3, hs]
        rw [hset _ _ _ hat]
        simp only [Option.bind_some]
        rw [hset _ _ _ (hset _ _ _ hat)]
        simp only [Option.bind_some]
        rw [hset _ _ _ (hset _ _ _ (hset _ _ _ hat))]
        simp only [Option.bind_some, mk_gKids, mk_gKind, mk_gName, mk_gNum]
        simp only [e1, Option.bind_some, cast_succ hj, List.set_set, Int.toNat_natCast])
      (k := k) (by omega) l (fun x hx => by have := nsum_mem (n := nT) hx; omega) b h1 h2
    obtain ⟨l', c, e1, e3, e4⟩ := key
    refine ⟨l', c, ?_, e3, e4⟩
    unfold plaws_markTermS; rw [e1]; rfl
theorem markTermS {k : Nat} {l : List GTerm} (hw : maxLen + 2 * nsum nT l + 2 < k) (b : Int) (h1 : 1 ≤ b) (h2 : b + 8 * (nsum nT l : Int) ≤ Huge) :
    ∃ l' c, plaws_markTermS k l b = some (l', c) ∧ b ≤ c ∧ c ≤ b + 8 * (nsum nT l : Int) := markTermS1 k l (by omega) b h1 h2
theorem markTerm {k : Nat} {x : GTerm} (hw : maxLen + 2 * nT x + 2 < k) (b : Int) (h1 : 1 ≤ b) (h2 : b + 8 * (nT x : Int) ≤ Huge) :
    ∃ y c, plaws_markTerm k x b = some (y, c) ∧ b ≤ c ∧ c ≤ b + 8 * (nT x : Int) := by
  have hk := nT_kids x
  obtain ⟨l', c, e1, e3, e4⟩ := markTermS (k := k) (l := x.gKids) (by omega) b h1 (by omega)
  refine ⟨.mk x.gKind x.gName x.gNum l', c, ?_, e3, by omega⟩
  unfold plaws_markTerm; rw [e1]; rfl
theorem plaws_toTermS_dd : @plaws_toTermS_d = @plaws_toTermS := by kernel_rfl

theorem plaws_toTerm_dd : @plaws_toTerm_d = @plaws_toTerm := by kernel_rfl

def nIns (x : GIns) : Nat := 0

theorem eqIns {k : Nat} {x : GIns} (hw : maxLen + 2 * (nIns x) + 2 < k) (hx : nIns x ≤ Huge) : plaws_eqIns k x x = some true := by
  unfold nIns at *
  unfold plaws_eqIns
  simp [sEq_refl]

theorem eqInsS {k : Nat} {l : List GIns} (hw : maxLen + 2 * (nsum nIns l) + 2 < k) (hl : nsum nIns l ≤ Huge) : plaws_eqInsS k l l = some true := by
  have := nsum_len nIns l
  exact eq2 (f := plaws_eqIns k) (L := plaws_eqInsS_L1 k l l) (by omega) (fun x hx => by have := nsum_mem (n := nIns) hx; exact eqIns (by omega) (by omega)) (fun m i => rfl) (k := k) (by omega)

theorem markInsS {k : Nat} {l : List GIns} (hw : maxLen + 2 * (nsum nIns l) + 2 < k) (b : Int) (h1 : 1 ≤ b) (h2 : b + 8 * (nsum nIns l : Int) ≤ Huge) :
    ∃ l' c, plaws_markInsS k l b = some (l', c) ∧ plaws_heldInsS k l' b = some c ∧ b ≤ c ∧ c ≤ b + 8 * (nsum nIns l : Int) := by
  have hm : maxLen = 9223372036854775807 := maxLen_eq
  have hH : Huge = 1152921504606846976 := rfl
  have h3 : (if (3 : Int) ≠ 0 then True else False) = True := by decide
  have hlen := nsum_len nIns l
  have key := mark2 (n := nIns) (ok := fun x => maxLen + 2 * (nIns x) + 2 < k)
    (good := fun b x c => 1 ≤ b ∧ c ≤ Huge ∧ c = (b + 4) ∧ x.gOp = b ∧ plaws_markText k (b + 1) = some x.gName ∧ x.gNum = (b + 2) ∧ x.gMany = (b + 3))
    (L := plaws_markInsS_L1 k) (H := plaws_heldInsS_L1 k)
    (fun m b l => by unfold plaws_markInsS_L1; rw [if_neg (by simp)])
    (fun m b j l x hx hj hat h1 h2 => by
      unfold nIns at *
      obtain ⟨s1, t1⟩ := markText (k := k) (by omega) (b + 1) (by omega) (by omega)
      refine ⟨(GIns.mk b s1 (b + 2) (b + 3)), (b + 4), ⟨h1, (by omega), rfl, rfl, t1, rfl, rfl⟩, (by omega), (by omega), fun hlt => ?_⟩
      have w0 : wr.i64 (b + 1) = b + 1 := by have := wr_i64 (x := b + 1) (by omega) (by omega); omega
      have w1 : wr.i64 (b + 1 + 1) = b + 2 := by have := wr_i64 (x := b + 1 + 1) (by omega) (by omega); omega
      have w2 : wr.i64 (b + 2 + 1) = b + 3 := by have := wr_i64 (x := b + 2 + 1) (by omega) (by omega); omega
      have w3 : wr.i64 (b + 3 + 1) = b + 4 := by have := wr_i64 (x := b + 3 + 1) (by omega) (by omega); omega
      have hat' : (at' l (j : Int)).isSome = true := by rw [hat]; rfl
      rw [plaws_markInsS_L1, if_pos (by simpa using hlt)]
      simp only [hat, hat', Option.isSome_some, Option.bind_some, w0, w1, w2, w3, t1, at_set, at_set_some, cast_succ hj, List.set_set, Int.toNat_natCast, if3])
    (fun l m b => by unfold plaws_heldInsS_L1; rw [if_neg (by simp)])
    (fun l m b c j x hj hat hg hlt => by
      obtain ⟨g1, g2, g3, k0, k1, k2, k3⟩ := hg
      have w0 : wr.i64 (b + 1) = b + 1 := by have := wr_i64 (x := b + 1) (by omega) (by omega); omega
      have w1 : wr.i64 (b + 1 + 1) = b + 2 := by have := wr_i64 (x := b + 1 + 1) (by omega) (by omega); omega
      have w2 : wr.i64 (b + 2 + 1) = b + 3 := by have := wr_i64 (x := b + 2 + 1) (by omega) (by omega); omega
      have w3 : wr.i64 (b + 3 + 1) = b + 4 := by have := wr_i64 (x := b + 3 + 1) (by omega) (by omega); omega
      have hc : ∀ c : Int, 1 ≤ c → (decide (c < 0)) = false := fun c h => by simpa using (by omega : 0 ≤ c)
      rw [plaws_heldInsS_L1, if_pos (by simpa using hlt)]
      simp only [hat, Option.bind_some, w0, w1, w2, w3, k0, k1, k2, k3, bne_self_eq_false, beq_self_eq_true, sEq_refl, Bool.not_true, Bool.false_eq_true, if_false, cast_succ hj, if3, g3])
    (k := k) (by omega) l (fun x hx => by have := nsum_mem (n := nIns) hx; omega) b h1 h2
  obtain ⟨l', c, e1, e2, e3, e4⟩ := key
  refine ⟨l', c, ?_, ?_, e3, e4⟩
  · unfold plaws_markInsS; rw [e1]; rfl
  · unfold plaws_heldInsS; rw [e2]; rfl

theorem toIntS {k : Nat} {l : List Int} (hw : maxLen + 2 * (nsum (fun _ => 0) l) + 2 < k) (hl : nsum (fun _ => 0) l ≤ 1048576) : plaws_toIntS k l = some l := by
  have := nsum_len (fun _ => 0) l
  have h := to2_flat (L := plaws_toIntS_L1 k l) (by omega) (fun m i o => rfl) (k := k) (by omega) 0
  unfold plaws_toIntS
  rw [if_pos h.1, h.2]; rfl

theorem plaws_toIntS_dd : @plaws_toIntS_d = @plaws_toIntS := by kernel_rfl

theorem eqIntS {k : Nat} {l : List Int} (hw : maxLen + 2 * (nsum (fun _ => 0) l) + 2 < k) (hl : nsum (fun _ => 0) l ≤ Huge) : plaws_eqIntS k l l = some true := by
  have := nsum_len (fun _ => 0) l
  exact eq2_flat (ne := fun x y => x != y) (L := plaws_eqIntS_L1 k l l) (by omega) (fun x => by simp [sEq_refl]) (fun m i => rfl) (k := k) (by omega)

theorem markIntS {k : Nat} {l : List Int} (hw : maxLen + 2 * (nsum (fun _ => 0) l) + 2 < k) (b : Int) (h1 : 1 ≤ b) (h2 : b + 8 * (nsum (fun _ => 0) l : Int) ≤ Huge) :
    ∃ l' c, plaws_markIntS k l b = some (l', c) ∧ plaws_heldIntS k l' b = some c ∧ b ≤ c ∧ c ≤ b + 8 * (nsum (fun _ => 0) l : Int) := by
  have hm : maxLen = 9223372036854775807 := maxLen_eq
  have hH : Huge = 1152921504606846976 := rfl
  have h3 : (if (3 : Int) ≠ 0 then True else False) = True := by decide
  have hlen := nsum_len (fun _ => 0) l
  have key := mark2 (n := (fun _ => 0)) (ok := fun x => maxLen + 2 * 0 + 2 < k)
    (good := fun b x c => 1 ≤ b ∧ c ≤ Huge ∧ c = (b + 1) ∧ x = b)
    (L := plaws_markIntS_L1 k) (H := plaws_heldIntS_L1 k)
    (fun m b l => by unfold plaws_markIntS_L1; rw [if_neg (by simp)])
    (fun m b j l x hx hj hat h1 h2 => by
      skip
      refine ⟨b, (b + 1), ⟨h1, (by omega), rfl, rfl⟩, (by omega), (by omega), fun hlt => ?_⟩
      have w0 : wr.i64 (b + 1) = b + 1 := by have := wr_i64 (x := b + 1) (by omega) (by omega); omega
      have hat' : (at' l (j : Int)).isSome = true := by rw [hat]; rfl
      rw [plaws_markIntS_L1, if_pos (by simpa using hlt)]
      simp only [hat, hat', Option.isSome_some, Option.bind_some, w0, at_set, at_set_some, cast_succ hj, List.set_set, Int.toNat_natCast, if3])
    (fun l m b => by unfold plaws_heldIntS_L1; rw [if_neg (by simp)])
    (fun l m b c j x hj hat hg hlt => by
      obtain ⟨g1, g2, g3, k0⟩ := hg
      have w0 : wr.i64 (b + 1) = b + 1 := by have := wr_i64 (x := b + 1) (by omega) (by omega); omega
      have hc : ∀ c : Int, 1 ≤ c → (decide (c < 0)) = false := fun c h => by simpa using (by omega : 0 ≤ c)
      rw [plaws_heldIntS_L1, if_pos (by simpa using hlt)]
      simp only [hat, Option.bind_some, w0, k0, bne_self_eq_false, beq_self_eq_true, sEq_refl, Bool.not_true, Bool.false_eq_true, if_false, cast_succ hj, if3, g3])
    (k := k) (by omega) l (fun x hx => by have := nsum_mem (n := (fun _ => 0)) hx; omega) b h1 h2
  obtain ⟨l', c, e1, e2, e3, e4⟩ := key
  refine ⟨l', c, ?_, ?_, e3, e4⟩
  · unfold plaws_markIntS; rw [e1]; rfl
  · unfold plaws_heldIntS; rw [e2]; rfl
/-- Is it within these bounds? -/
def inR (x a b : Int) : Bool := decide (a ≤ x ∧ x ≤ b)
theorem inR_t {x a b : Int} (h : a ≤ x ∧ x ≤ b) : inR x a b = true := decide_eq_true h
theorem inR_f {x a b : Int} (h : ¬ (a ≤ x ∧ x ≤ b)) : inR x a b = false := decide_eq_false h

theorem l01In (k : Nat) (x a b : Int) : pspec_l01In k x a b = some (inR x a b) := by
  unfold pspec_l01In inR
  by_cases h : a ≤ x
  · rw [if_pos (by simpa using h)]; simp [h]
  · rw [if_neg (by simpa using h)]; simp [h]

theorem within (k : Nat) (x a b : Int) : pimpl_within k x a b = some (inR x a b) := by
  unfold pimpl_within inR
  by_cases h : a ≤ x
  · rw [if_pos (by simpa using h)]; simp [h]
  · rw [if_neg (by simpa using h)]; simp [h]
theorem bt_le (s : ByteArray) (i : Int) : 0 ≤ bt s i ∧ bt s i ≤ 255 := by
  unfold bt
  have : ((s[i.toNat]?).getD 0).toNat < 256 := ((s[i.toNat]?).getD 0).toNat_lt
  omega
/-- A byte that a name may have. -/
def gb (s : ByteArray) (i : Nat) : Prop := 33 ≤ bt s (i : Int) ∧ bt s (i : Int) ≤ 126 ∧ bt s (i : Int) ≠ 39 ∧ bt s (i : Int) ≠ 34
instance (s : ByteArray) (i : Nat) : Decidable (gb s i) := by unfold gb; infer_instance
/-- A name. -/
def nmOk (s : ByteArray) : Prop := (∀ i, i < s.size → gb s i) ∧ 1 ≤ s.size ∧ s.size ≤ 20
instance (s : ByteArray) : Decidable (nmOk s) := by unfold nmOk; infer_instance

theorem l03Name_L1 (k : Nat) (s : ByteArray) (hs : s.size ≤ maxLen) : ∀ (m n : Nat), n ≤ s.size → s.size - n < m →
    ∃ o, pspec_l03Name_L1 k s m (n : Int) = some o ∧ (match o with | .ret r => r = false ∧ ∃ i, i < s.size ∧ ¬ gb s i | .done _ => ∀ i, n ≤ i → i < s.size → gb s i)
  | 0, n, h1, h2 => by omega
  | m + 1, n, h1, h2 => by
    unfold pspec_l03Name_L1
    by_cases hlt : n < s.size
    · have hg : 0 ≤ (n : Int) ∧ (n : Int).toNat < s.size := ⟨by omega, by simpa using hlt⟩
      have bad : ∀ b : Prop, (gb s n → ¬ b) → b → ∃ o, (some (Out.ret false) : Option (Out Bool Unit)) = some o ∧ (match o with | .ret r => r = false ∧ ∃ i, i < s.size ∧ ¬ gb s i | .done _ => ∀ i, n ≤ i → i < s.size → gb s i) :=
        fun b h hb => ⟨_, rfl, rfl, n, hlt, fun h' => h h' hb⟩
      rw [if_pos (by simpa using hlt), if_pos hg]
      by_cases c1 : bt s (n : Int) < 33
      · rw [if_pos (by simpa using c1)]; exact bad _ (fun h => by have := h.1; omega) c1
      rw [if_neg (by simpa using c1), if_pos hg]
      by_cases c2 : bt s (n : Int) > 126
      · rw [if_pos (by simpa using c2)]; exact bad _ (fun h => by have := h.2.1; omega) c2
      rw [if_neg (by simpa using c2), if_pos hg]
      by_cases c3 : bt s (n : Int) = 39
      · rw [if_pos (by simpa using c3)]; exact bad _ (fun h => h.2.2.1) c3
      rw [if_neg (by simpa using c3), if_pos hg]
      by_cases c4 : bt s (n : Int) = 34
      · rw [if_pos (by simpa using c4)]; exact bad _ (fun h => h.2.2.2) c4
      rw [if_neg (by simpa using c4), wr_succ hlt hs]
      obtain ⟨o, h3, h4⟩ := l03Name_L1 k s hs m (n + 1) (by omega) (by omega)
      refine ⟨o, h3, ?_⟩
      cases o with
      | ret r => exact h4
      | done u =>
        intro i hi1 hi2
        by_cases e : i = n
        · subst e; exact ⟨by omega, by omega, c3, c4⟩
        · exact h4 i (by omega) hi2
    · rw [if_neg (by simpa using hlt)]
      exact ⟨_, rfl, fun i h3 h4 => by omega⟩

theorem nameOk_L1 (k : Nat) (s : ByteArray) (hs : s.size ≤ maxLen) : ∀ (m n : Nat), n ≤ s.size → s.size - n < m →
    ∃ o, pimpl_nameOk_L1 k s m (n : Int) = some o ∧ (match o with | .ret r => r = false ∧ ∃ i, i < s.size ∧ ¬ gb s i | .done _ => ∀ i, n ≤ i → i < s.size → gb s i)
  | 0, n, h1, h2 => by omega
  | m + 1, n, h1, h2 => by
    unfold pimpl_nameOk_L1
    by_cases hlt : n < s.size
    · have hg : 0 ≤ (n : Int) ∧ (n : Int).toNat < s.size := ⟨by omega, by simpa using hlt⟩
      have hb := bt_le s (n : Int)
      have bad : ∀ b : Prop, (gb s n → ¬ b) → b → ∃ o, (some (Out.ret false) : Option (Out Bool Unit)) = some o ∧ (match o with | .ret r => r = false ∧ ∃ i, i < s.size ∧ ¬ gb s i | .done _ => ∀ i, n ≤ i → i < s.size → gb s i) :=
        fun b h hb => ⟨_, rfl, rfl, n, hlt, fun h' => h h' hb⟩
      rw [if_pos (by simpa using hlt), if_pos hg, within, wr_i64 (by omega) (by omega)]
      simp only [Option.bind_some]
      by_cases c1 : 33 ≤ bt s (n : Int) ∧ bt s (n : Int) ≤ 126
      · rw [inR_t c1, if_neg (by simp), if_pos hg]
        by_cases c3 : bt s (n : Int) = 39
        · rw [if_pos (by simpa using c3)]; exact bad _ (fun h => h.2.2.1) c3
        rw [if_neg (by simpa using c3), if_pos hg]
        by_cases c4 : bt s (n : Int) = 34
        · rw [if_pos (by simpa using c4)]; exact bad _ (fun h => h.2.2.2) c4
        rw [if_neg (by simpa using c4), wr_succ hlt hs]
        obtain ⟨o, h3, h4⟩ := nameOk_L1 k s hs m (n + 1) (by omega) (by omega)
        refine ⟨o, h3, ?_⟩
        cases o with
        | ret r => exact h4
        | done u =>
          intro i hi1 hi2
          by_cases e : i = n
          · subst e; exact ⟨by omega, by omega, c3, c4⟩
          · exact h4 i (by omega) hi2
      · rw [inR_f c1, if_pos (by simp)]
        exact bad _ (fun h => by have := h.1; have := h.2.1; omega) c1
    · rw [if_neg (by simpa using hlt)]
      exact ⟨_, rfl, fun i h3 h4 => by omega⟩

theorem nm_of {s : ByteArray} (h : ∀ i, 0 ≤ i → i < s.size → gb s i) : inR (s.size : Int) 1 20 = decide (nmOk s) := by
  unfold inR
  rw [decide_eq_decide]
  unfold nmOk
  constructor
  · intro h1; exact ⟨fun i hi => h i (by omega) hi, by omega, by omega⟩
  · intro h1; obtain ⟨_, h5, h6⟩ := h1; omega

theorem l03Name {k : Nat} {s : ByteArray} (hs : s.size ≤ maxLen) (hk : maxLen < k) : pspec_l03Name k s = some (decide (nmOk s)) := by
  unfold pspec_l03Name
  obtain ⟨o, h1, h2⟩ := l03Name_L1 k s hs k 0 (by omega) (by omega)
  rw [show ((0 : Nat) : Int) = 0 from rfl] at h1
  rw [h1]
  cases o with
  | ret r =>
    obtain ⟨rfl, i, h3, h4⟩ := h2
    have : ¬ nmOk s := fun h => h4 (h.1 i h3)
    simp [this]
  | done u =>
    simp only [Option.bind_some]
    rw [l01In]
    simp only [Option.bind_some]
    rw [nm_of h2]

theorem nameOk {k : Nat} {s : ByteArray} (hs : s.size ≤ maxLen) (hk : maxLen < k) : pimpl_nameOk k s = some (decide (nmOk s)) := by
  unfold pimpl_nameOk
  obtain ⟨o, h1, h2⟩ := nameOk_L1 k s hs k 0 (by omega) (by omega)
  rw [show ((0 : Nat) : Int) = 0 from rfl] at h1
  rw [h1]
  cases o with
  | ret r =>
    obtain ⟨rfl, i, h3, h4⟩ := h2
    have : ¬ nmOk s := fun h => h4 (h.1 i h3)
    simp [this]
  | done u =>
    simp only [Option.bind_some]
    rw [within]
    simp only [Option.bind_some]
    rw [nm_of h2]

/-- The head of a term is as it should be. -/
def one (x : GTerm) : Bool :=
  if x.gKind = 1 then inR x.gNum 0 99999 && (sEq x.gName (bs []) && ((x.gKids.length : Int) == 0))
  else if x.gKind = 2 then decide (nmOk x.gName) && ((x.gNum == 0) && ((x.gKids.length : Int) == 0))
  else if x.gKind = 3 then inR x.gNum (-999999999) 999999999 && (sEq x.gName (bs []) && ((x.gKids.length : Int) == 0))
  else if x.gKind = 4 then decide (nmOk x.gName) && ((x.gNum == 0) && inR (x.gKids.length : Int) 1 5)
  else false
mutual
/-- A term, at a depth, is as it should be. -/
def gT : Int → GTerm → Bool
  | d, .mk a b c l => decide (d ≤ 40) && (one (.mk a b c l) && gTs (d + 1) l)
def gTs : Int → List GTerm → Bool
  | _, [] => true
  | d, x :: l => gT d x && gTs d l
end
theorem gT_eq (d : Int) (x : GTerm) : gT d x = (decide (d ≤ 40) && (one x && gTs (d + 1) x.gKids)) := by
  cases x with
  | mk a b c l => rw [gT]; rfl
theorem gTs_drop {d : Int} {l : List GTerm} {j : Nat} (h : j < l.length) : gTs d (l.drop j) = (gT d l[j] && gTs d (l.drop (j + 1))) := by
  rw [List.drop_eq_getElem_cons h, gTs]
theorem ns_drop {l : List GTerm} {j : Nat} (h : j < l.length) : nsum nT (l.drop j) = 1 + nT l[j] + nsum nT (l.drop (j + 1)) := by
  rw [List.drop_eq_getElem_cons h, nsum]

theorem l03One {k : Nat} {x : GTerm} (hx : x.ok) (hk : maxLen < k) : pspec_l03One k x = some (one x) := by
  have hn := l03Name (k := k) (s := x.gName) (ok_name hx) hk
  unfold pspec_l03One one
  simp only [hn, l01In, Option.bind_some]
  by_cases c1 : x.gKind = 1
  · rw [if_pos (by simpa using c1), if_pos c1]
    cases inR x.gNum 0 99999 <;> cases sEq x.gName (bs []) <;> simp
  rw [if_neg (by simpa using c1), if_neg c1]
  by_cases c2 : x.gKind = 2
  · rw [if_pos (by simpa using c2), if_pos c2]
    cases decide (nmOk x.gName) <;> by_cases h : x.gNum = 0 <;> simp [h]
  rw [if_neg (by simpa using c2), if_neg c2]
  by_cases c3 : x.gKind = 3
  · rw [if_pos (by simpa using c3), if_pos c3]
    cases inR x.gNum (-999999999) 999999999 <;> cases sEq x.gName (bs []) <;> simp
  rw [if_neg (by simpa using c3), if_neg c3]
  by_cases c4 : x.gKind = 4
  · rw [if_pos (by simpa using c4), if_pos c4]
    cases decide (nmOk x.gName) <;> by_cases h : x.gNum = 0 <;> simp [h]
  · rw [if_neg (by simpa using c4), if_neg c4]

/-- What is left of so many terms. -/
def leftOf (v left : Int) (n : Nat) : Prop := -1 ≤ v ∧ (0 ≤ v ↔ (n : Int) ≤ left) ∧ (0 ≤ v → v = left - (n : Int))
theorem l03Count_L1 {k : Nat} {x : GTerm} {f : GTerm → Int → Option Int} (hx : x.gKids.length ≤ maxLen) (hf : ∀ y ∈ x.gKids, ∀ b, 0 ≤ b → b ≤ 400 → ∃ v, f y b = some v ∧ leftOf v b (1 + nT y)) :
    ∀ (m j : Nat) (b : Int), j ≤ x.gKids.length → x.gKids.length - j < m → -1 ≤ b → b ≤ 400 →
      ∃ v, pspec_l03Count_L1 k f x m b (j : Int) = some (.done v) ∧ ((b = -1 ∧ v = -1) ∨ (0 ≤ b ∧ leftOf v b (nsum nT (x.gKids.drop j))))
  | 0, j, b, h1, h2, h3, h4 => by omega
  | m + 1, j, b, h1, h2, h3, h4 => by
    unfold pspec_l03Count_L1
    by_cases hlt : j < x.gKids.length
    · rw [if_pos (by simpa using hlt)]
      by_cases hb : 0 ≤ b
      · rw [if_pos (by simpa using hb), at_lt hlt]
        simp only [Option.bind_some]
        obtain ⟨v, e, g1, g2, g3⟩ := hf _ (List.getElem_mem hlt) b hb h4
        rw [e]
        simp only [Option.bind_some]
        rw [wr_succ hlt hx]
        obtain ⟨u, e2, h5⟩ := l03Count_L1 (k := k) hx hf m (j + 1) v (by omega) (by omega) g1 (by by_cases h : 0 ≤ v <;> omega)
        refine ⟨u, e2, .inr ⟨hb, ?_⟩⟩
        rw [ns_drop hlt]
        rcases h5 with ⟨rfl, rfl⟩ | ⟨h6, h7, h8, h9⟩
        · refine ⟨by omega, ⟨fun h => by omega, fun h => by have := g2.2 (by omega); omega⟩, fun h => by omega⟩
        · have := g3 h6
          have := g2.1 h6
          refine ⟨h7, ⟨fun h => by have := h8.1 h; omega, fun h => h8.2 (by omega)⟩, fun h => by have := h9 h; omega⟩
      · rw [if_neg (by simpa using hb)]
        exact ⟨b, rfl, .inl ⟨by omega, by omega⟩⟩
    · rw [if_neg (by simpa using hlt)]
      rw [List.drop_of_length_le (by omega)]
      by_cases hb : 0 ≤ b
      · exact ⟨b, rfl, .inr ⟨hb, h3, by simp only [nsum]; omega, fun _ => by simp only [nsum]; omega⟩⟩
      · exact ⟨b, rfl, .inl ⟨by omega, by omega⟩⟩

theorem l03Count : ∀ (k : Nat) (x : GTerm), maxLen + 2 * nT x + 2 < k → x.ok → ∀ b : Int, 0 ≤ b → b ≤ 400 → ∃ v, pspec_l03Count k x b = some v ∧ leftOf v b (1 + nT x)
  | 0, x, h => by omega
  | k + 1, x, hw => by
    intro hx b h0 h1
    have hn := nT_kids x
    unfold pspec_l03Count
    rw [wr_i64 (by omega) (by omega)]
    obtain ⟨v, e, h⟩ := l03Count_L1 (k := k) (x := x) (ok_kids hx).1 (fun y hy b h0 h1 => by have := nsum_mem (n := nT) hy; exact l03Count k y (by omega) ((ok_kids hx).2 y hy) b h0 h1) k 0 (b - 1) (by omega) (by have := (ok_kids hx).1; omega) (by omega) (by omega)
    rw [show ((0 : Nat) : Int) = 0 from rfl] at e
    rw [e]
    refine ⟨v, rfl, ?_⟩
    rw [List.drop_zero, ← hn] at h
    rcases h with ⟨h2, rfl⟩ | ⟨h2, h3, h4, h5⟩
    · exact ⟨by omega, ⟨fun h => by omega, fun h => by omega⟩, fun h => by omega⟩
    · exact ⟨h3, ⟨fun h => by have := h4.1 h; omega, fun h => h4.2 (by omega)⟩, fun h => by have := h5 h; omega⟩

theorem l03Right_L1 {k : Nat} {x : GTerm} {d : Int} {f : GTerm → Int → Option Bool} (hx : x.gKids.length ≤ maxLen) (hd : wr.i64 (d + 1) = d + 1) (hf : ∀ y ∈ x.gKids, f y (d + 1) = some (gT (d + 1) y)) :
    ∀ (m j : Nat), j ≤ x.gKids.length → x.gKids.length - j < m → pspec_l03Right_L1 k f x d m (j : Int) = some (if gTs (d + 1) (x.gKids.drop j) then .done () else .ret false)
  | 0, j, h1, h2 => by omega
  | m + 1, j, h1, h2 => by
    unfold pspec_l03Right_L1
    by_cases hlt : j < x.gKids.length
    · rw [if_pos (by simpa using hlt), at_lt hlt, hd]
      simp only [Option.bind_some, hf _ (List.getElem_mem hlt)]
      rw [gTs_drop hlt]
      cases hg : gT (d + 1) x.gKids[j] with
      | false => simp
      | true =>
        rw [if_neg (by simp), wr_succ hlt hx, l03Right_L1 hx hd hf m (j + 1) (by omega) (by omega)]
        simp
    · rw [if_neg (by simpa using hlt), List.drop_of_length_le (by omega), gTs]; rfl

theorem l03Right : ∀ (k : Nat) (x : GTerm), maxLen + 2 * nT x + 2 < k → x.ok → ∀ d : Int, 0 ≤ d → d ≤ 41 → pspec_l03Right k x d = some (gT d x)
  | 0, x, h => by omega
  | k + 1, x, hw => by
    intro hx d h0 h1
    have hn := nT_kids x
    unfold pspec_l03Right
    rw [gT_eq]
    by_cases hd : d > 40
    · rw [if_pos (by simpa using hd)]; simp; omega
    · rw [if_neg (by simpa using hd), l03One hx (by omega)]
      simp only [Option.bind_some]
      cases h1 : one x with
      | false => simp
      | true =>
        rw [if_neg (by simp)]
        have e := l03Right_L1 (k := k) (x := x) (d := d) (ok_kids hx).1 (wr_i64 (by omega) (by omega)) (fun y hy => by have := nsum_mem (n := nT) hy; exact l03Right k y (by omega) ((ok_kids hx).2 y hy) (d + 1) (by omega) (by omega)) k 0 (by omega) (by have := (ok_kids hx).1; omega)
        rw [show ((0 : Nat) : Int) = 0 from rfl, List.drop_zero] at e
        rw [e]
        cases gTs (d + 1) x.gKids <;> simp <;> omega

/-- A term is right. -/
def tOk (x : GTerm) : Bool := decide (1 + nT x ≤ 400) && gT 1 x
theorem spec_TermOk {k : Nat} {x : GTerm} (hw : maxLen + 2 * nT x + 2 < k) (hx : x.ok) : pspec_TermOk k x = some (tOk x) := by
  unfold pspec_TermOk tOk
  obtain ⟨v, e, h1, h2, h3⟩ := l03Count k x hw hx 400 (by omega) (by omega)
  rw [e]
  simp only [Option.bind_some]
  by_cases hv : 0 ≤ v
  · rw [if_pos (by simpa using hv), l03Right k x hw hx 1 (by omega) (by omega)]
    have := h2.1 hv
    simp; omega
  · rw [if_neg (by simpa using hv)]
    have : ¬ (1 + nT x ≤ 400) := fun h => hv (h2.2 (by omega))
    simp [this]

/-- What the program counts. -/
def cnt (d : Int) (x : GTerm) : Int := if gT d x && decide (1 + nT x ≤ 400) then ((1 + nT x : Nat) : Int) else 401
theorem sized_L2 {k : Nat} {x : GTerm} {d : Int} {f : GTerm → Int → Option Int} (hx : x.gKids.length ≤ maxLen) (hd : wr.i64 (d + 1) = d + 1) (hf : ∀ y ∈ x.gKids, f y (d + 1) = some (cnt (d + 1) y)) :
    ∀ (m j : Nat) (b : Int), j ≤ x.gKids.length → x.gKids.length - j < m → 1 ≤ b → b ≤ 400 →
      pimpl_sized_L2 k f x d m b (j : Int) = some (if gTs (d + 1) (x.gKids.drop j) && decide (b + (nsum nT (x.gKids.drop j) : Int) ≤ 400) then .done (b + (nsum nT (x.gKids.drop j) : Int)) else .ret 401)
  | 0, j, b, h1, h2, h3, h4 => by omega
  | m + 1, j, b, h1, h2, h3, h4 => by
    unfold pimpl_sized_L2
    by_cases hlt : j < x.gKids.length
    · rw [if_pos (by simpa using hlt), at_lt hlt, hd]
      simp only [Option.bind_some, hf _ (List.getElem_mem hlt)]
      rw [gTs_drop hlt, ns_drop hlt, wr_succ hlt hx]
      by_cases hg : gT (d + 1) x.gKids[j] = true ∧ 1 + nT x.gKids[j] ≤ 400
      · have hc : cnt (d + 1) x.gKids[j] = ((1 + nT x.gKids[j] : Nat) : Int) := by unfold cnt; rw [if_pos (by simpa using hg)]
        rw [hc, wr_i64 (by omega) (by omega)]
        by_cases hs : b + ((1 + nT x.gKids[j] : Nat) : Int) > 400
        · rw [if_pos (by simpa using hs), if_neg]
          simp only [Bool.and_eq_true, decide_eq_true_eq, not_and]
          intro _; omega
        · rw [if_neg (by simpa using hs), sized_L2 hx hd hf m (j + 1) _ (by omega) (by omega) (by omega) (by omega), hg.1, Bool.true_and]
          have e1 : b + ((1 + nT x.gKids[j] : Nat) : Int) + (nsum nT (x.gKids.drop (j + 1)) : Int) = b + ((1 + nT x.gKids[j] + nsum nT (x.gKids.drop (j + 1)) : Nat) : Int) := by omega
          rw [e1]
      · have hc : cnt (d + 1) x.gKids[j] = 401 := by unfold cnt; rw [if_neg (by simpa using hg)]
        rw [hc, wr_i64 (by omega) (by omega), if_pos (by simp; omega), if_neg]
        simp only [Bool.and_eq_true, decide_eq_true_eq, not_and]
        intro h5
        have h6 : ¬ (1 + nT x.gKids[j] ≤ 400) := fun h => hg ⟨h5.1, h⟩
        omega
    · rw [if_neg (by simpa using hlt), List.drop_of_length_le (by omega), gTs, if_pos (by simp only [nsum]; simp; omega)]
      simp [nsum]

theorem sized : ∀ (k : Nat) (x : GTerm), maxLen + 2 * nT x + 2 < k → x.ok → ∀ d : Int, 0 ≤ d → d ≤ 41 → pimpl_sized k x d = some (cnt d x)
  | 0, x, h => by omega
  | k + 1, x, hw => by
    intro hx d h0 h1
    have hn := nT_kids x
    have hnm := nameOk (k := k) (s := x.gName) (ok_name hx) (by omega)
    have hJ : d ≤ 40 → one x = true → pimpl_sized_J1 k (pimpl_sized k) x d = some (cnt d x) := by
      intro hd h1
      unfold pimpl_sized_J1 cnt
      have e := sized_L2 (k := k) (x := x) (d := d) (ok_kids hx).1 (wr_i64 (by omega) (by omega)) (fun y hy => by have := nsum_mem (n := nT) hy; exact sized k y (by omega) ((ok_kids hx).2 y hy) (d + 1) (by omega) (by omega)) k 0 1 (by omega) (by have := (ok_kids hx).1; omega) (by omega) (by omega)
      rw [show ((0 : Nat) : Int) = 0 from rfl, List.drop_zero, ← hn] at e
      rw [e, gT_eq, h1, Bool.true_and, decide_eq_true hd, Bool.true_and]
      have e2 : decide (1 + (nT x : Int) ≤ 400) = decide (1 + nT x ≤ 400) := by rw [decide_eq_decide]; omega
      rw [e2]
      split
      · simp
      · simp
    have hbad : one x = false → (401 : Int) = cnt d x := by
      intro h1; unfold cnt; rw [gT_eq, h1]; simp
    unfold pimpl_sized
    by_cases hd : d > 40
    · rw [if_pos (by simpa using hd)]
      unfold cnt; rw [gT_eq, decide_eq_false (show ¬ d ≤ 40 by omega)]; simp
    have hJ' := hJ (by omega)
    rw [if_neg (by simpa using hd)]
    simp only [hnm, within, Option.bind_some]
    generalize pimpl_sized_J1 k (pimpl_sized k) x d = J at hJ' ⊢
    generalize cnt d x = C at hJ' hbad ⊢
    have hlen : ((x.gKids.length : Int) > 0) ↔ ¬ ((x.gKids.length : Int) = 0) := by omega
    unfold one at hJ' hbad
    by_cases c1 : x.gKind = 1
    · rw [if_pos (by simpa using c1)]
      rw [if_pos c1] at hJ' hbad
      cases h2 : inR x.gNum 0 99999 <;> cases h3 : sEq x.gName (bs []) <;> by_cases h4 : (x.gKids.length : Int) = 0 <;> simp_all
    rw [if_neg (by simpa using c1)]
    rw [if_neg c1] at hJ' hbad
    by_cases c2 : x.gKind = 2
    · rw [if_pos (by simpa using c2)]
      rw [if_pos c2] at hJ' hbad
      cases h2 : decide (nmOk x.gName) <;> by_cases h3 : x.gNum = 0 <;> by_cases h4 : (x.gKids.length : Int) = 0 <;> simp_all
    rw [if_neg (by simpa using c2)]
    rw [if_neg c2] at hJ' hbad
    by_cases c3 : x.gKind = 3
    · rw [if_pos (by simpa using c3)]
      rw [if_pos c3] at hJ' hbad
      cases h2 : inR x.gNum (-999999999) 999999999 <;> cases h3 : sEq x.gName (bs []) <;> by_cases h4 : (x.gKids.length : Int) = 0 <;> simp_all
    rw [if_neg (by simpa using c3)]
    rw [if_neg c3] at hJ' hbad
    by_cases c4 : x.gKind = 4
    · rw [if_pos (by simpa using c4)]
      rw [if_pos c4] at hJ' hbad
      cases h2 : decide (nmOk x.gName) <;> by_cases h3 : x.gNum = 0 <;> cases h4 : inR (x.gKids.length : Int) 1 5 <;> simp_all
    · rw [if_neg (by simpa using c4)]
      rw [if_neg c4] at hbad
      rw [hbad rfl]

theorem impl_TermOk {k : Nat} {x : GTerm} (hw : maxLen + 2 * nT x + 2 < k) (hx : x.ok) : pimpl_TermOk k x = some (tOk x) := by
  unfold pimpl_TermOk tOk
  rw [sized k x hw hx 1 (by omega) (by omega)]
  simp only [Option.bind_some]
  unfold cnt
  cases gT 1 x <;> by_cases h : 1 + nT x ≤ 400 <;> simp [h] <;> omega
theorem l03Has_L1 (k : Nat) {l : List Int} (x : Int) (hl : l.length ≤ maxLen) : ∀ (m j : Nat), j ≤ l.length → l.length - j < m → pspec_l03Has_L1 k l x m (j : Int) = some (if x ∈ l.drop j then .ret true else .done ())
  | 0, j, h1, h2 => by omega
  | m + 1, j, h1, h2 => by
    unfold pspec_l03Has_L1
    by_cases hlt : j < l.length
    · rw [if_pos (by simpa using hlt), at_lt hlt, List.drop_eq_getElem_cons hlt]
      simp only [Option.bind_some]
      by_cases e : l[j] = x
      · rw [if_pos (by simpa using e), if_pos (by simp [e])]
      · rw [if_neg (by simpa using e), wr_succ hlt hl, l03Has_L1 k x hl m (j + 1) (by omega) (by omega)]
        have : (x ∈ l[j] :: l.drop (j + 1)) ↔ x ∈ l.drop (j + 1) := by
          rw [List.mem_cons]; exact ⟨fun h => h.resolve_left (fun h => e h.symm), .inr⟩
        simp only [this]
    · rw [if_neg (by simpa using hlt), List.drop_of_length_le (by omega)]; simp
theorem l03Has {k : Nat} {l : List Int} (x : Int) (hl : l.length ≤ maxLen) (hk : maxLen < k) : pspec_l03Has k l x = some (decide (x ∈ l)) := by
  unfold pspec_l03Has
  have e := l03Has_L1 k x hl k 0 (by omega) (by omega)
  rw [show ((0 : Nat) : Int) = 0 from rfl, List.drop_zero] at e
  rw [e]
  by_cases h : x ∈ l <;> simp [h]
theorem index_L1 (k : Nat) {l : List Int} (x : Int) (hl : l.length ≤ maxLen) : ∀ (m j : Nat), j ≤ l.length → l.length - j < m →
    ∃ o, pslices_Index___int_int__L1 k l x m (j : Int) = some o ∧ (match o with | .ret i => 0 ≤ i ∧ x ∈ l.drop j | .done _ => ¬ x ∈ l.drop j)
  | 0, j, h1, h2 => by omega
  | m + 1, j, h1, h2 => by
    unfold pslices_Index___int_int__L1
    by_cases hlt : j < l.length
    · rw [if_pos (by simpa using hlt), at_lt hlt, List.drop_eq_getElem_cons hlt]
      simp only [Option.bind_some]
      by_cases e : x = l[j]
      · rw [if_pos (by simpa using e)]
        exact ⟨_, rfl, by omega, by rw [List.mem_cons]; exact .inl e⟩
      · rw [if_neg (by simpa using e), wr_succ hlt hl]
        obtain ⟨o, h3, h4⟩ := index_L1 k x hl m (j + 1) (by omega) (by omega)
        refine ⟨o, h3, ?_⟩
        cases o with
        | ret i => exact ⟨h4.1, List.mem_cons_of_mem _ h4.2⟩
        | done u =>
          intro hm
          rcases List.mem_cons.1 hm with hm | hm
          · exact e hm
          · exact h4 hm
    · rw [if_neg (by simpa using hlt), List.drop_of_length_le (by omega)]
      exact ⟨_, rfl, by simp⟩
theorem contains {k : Nat} {l : List Int} (x : Int) (hl : l.length ≤ maxLen) (hk : maxLen < k) : pslices_Contains___int_int_ k l x = some (decide (x ∈ l)) := by
  unfold pslices_Contains___int_int_ pslices_Index___int_int_
  obtain ⟨o, h1, h2⟩ := index_L1 k x hl k 0 (by omega) (by omega)
  rw [show ((0 : Nat) : Int) = 0 from rfl] at h1
  rw [h1]
  rw [List.drop_zero] at h2
  cases o with
  | ret i => simp [h2.1, h2.2]
  | done u =>
    simp only [Option.bind_some]
    have : ¬ x ∈ l := h2
    simp [this]

mutual
/-- The words of a term, and the variables seen by then. -/
def W : GTerm → List Int → List GIns × List Int
  | .mk a b c l, s =>
    if a = 2 then ([GIns.mk 1 b 0 0], s)
    else if a = 3 then ([GIns.mk 2 (bs []) c 0], s)
    else if a = 1 then (if c ∈ s then ([GIns.mk 4 (bs []) c 0], s) else ([GIns.mk 3 (bs []) c 0], s ++ [c]))
    else (GIns.mk 5 b 0 (l.length : Int) :: (Ws l s).1, (Ws l s).2)
def Ws : List GTerm → List Int → List GIns × List Int
  | [], s => ([], s)
  | x :: l, s => ((W x s).1 ++ (Ws l (W x s).2).1, (Ws l (W x s).2).2)
end
theorem W_eq (x : GTerm) (s : List Int) : W x s = if x.gKind = 2 then ([GIns.mk 1 x.gName 0 0], s)
    else if x.gKind = 3 then ([GIns.mk 2 (bs []) x.gNum 0], s)
    else if x.gKind = 1 then (if x.gNum ∈ s then ([GIns.mk 4 (bs []) x.gNum 0], s) else ([GIns.mk 3 (bs []) x.gNum 0], s ++ [x.gNum]))
    else (GIns.mk 5 x.gName 0 (x.gKids.length : Int) :: (Ws x.gKids s).1, (Ws x.gKids s).2) := by
  cases x with
  | mk a b c l => rw [W]; rfl
mutual
theorem W_len : ∀ (x : GTerm) (s : List Int), (W x s).1.length ≤ 1 + nT x ∧ (W x s).2.length ≤ s.length + 1 + nT x
  | .mk a b c l, s => by
    have h := Ws_len l s
    rw [W, nT]
    split
    · simp; omega
    · split
      · simp; omega
      · split
        · split <;> simp <;> omega
        · simp only [List.length_cons]; omega
theorem Ws_len : ∀ (l : List GTerm) (s : List Int), (Ws l s).1.length ≤ nTs l ∧ (Ws l s).2.length ≤ s.length + nTs l
  | [], s => by simp [Ws, nTs]
  | x :: l, s => by
    have h1 := W_len x s
    have h2 := Ws_len l (W x s).2
    rw [Ws, nTs]
    simp only [List.length_append]
    omega
end
theorem Ws_drop {l : List GTerm} {j : Nat} (h : j < l.length) (s : List Int) : Ws (l.drop j) s = ((W l[j] s).1 ++ (Ws (l.drop (j + 1)) (W l[j] s).2).1, (Ws (l.drop (j + 1)) (W l[j] s).2).2) := by
  rw [List.drop_eq_getElem_cons h, Ws]

theorem l12Words_L1 {k : Nat} {x : GTerm} {f : GTerm → List GIns → List Int → Option (List GIns × List Int)} (hx : x.gKids.length ≤ 1048576)
    (hf : ∀ y ∈ x.gKids, ∀ o s, o.length + 1 + nT y ≤ 8388608 → s.length + 1 + nT y ≤ 8388608 → f y o s = some (o ++ (W y s).1, (W y s).2)) :
    ∀ (m j : Nat) (o : List GIns) (s : List Int), j ≤ x.gKids.length → x.gKids.length - j < m → o.length + nsum nT (x.gKids.drop j) ≤ 8388608 → s.length + nsum nT (x.gKids.drop j) ≤ 8388608 →
      pspec_l12Words_L1 k f x m o s (j : Int) = some (.done (o ++ (Ws (x.gKids.drop j) s).1, (Ws (x.gKids.drop j) s).2))
  | 0, j, o, s, h1, h2, h3, h4 => by omega
  | m + 1, j, o, s, h1, h2, h3, h4 => by
    have hm : x.gKids.length ≤ maxLen := by rw [maxLen_eq]; omega
    unfold pspec_l12Words_L1
    by_cases hlt : j < x.gKids.length
    · rw [ns_drop hlt] at h3 h4
      have hl := W_len x.gKids[j] s
      rw [if_pos (by simpa using hlt), at_lt hlt]
      simp only [Option.bind_some]
      rw [hf _ (List.getElem_mem hlt) o s (by omega) (by omega)]
      simp only [Option.bind_some]
      rw [wr_succ hlt hm, l12Words_L1 hx hf m (j + 1) _ _ (by omega) (by omega) (by simp only [List.length_append]; omega) (by omega), Ws_drop hlt]
      simp only [List.append_assoc]
    · rw [if_neg (by simpa using hlt), List.drop_of_length_le (by omega), Ws, List.append_nil]

theorem l12Words : ∀ (k : Nat) (x : GTerm), maxLen + 2 * nT x + 2 < k → nT x ≤ 1048576 → ∀ o s, o.length + 1 + nT x ≤ 8388608 → s.length + 1 + nT x ≤ 8388608 → pspec_l12Words k x o s = some (o ++ (W x s).1, (W x s).2)
  | 0, x, h => by omega
  | k + 1, x, hw => by
    intro hn o s h1 h2
    have hk := nT_kids x
    have hlen := nsum_len nT x.gKids
    have hm : maxLen = 9223372036854775807 := maxLen_eq
    unfold pspec_l12Words
    rw [W_eq]
    by_cases c2 : x.gKind = 2
    · rw [if_pos (by simpa using c2), if_pos c2, if_pos (by simp; omega)]
    rw [if_neg (by simpa using c2), if_neg c2]
    by_cases c3 : x.gKind = 3
    · rw [if_pos (by simpa using c3), if_pos c3, if_pos (by simp; omega)]
    rw [if_neg (by simpa using c3), if_neg c3]
    by_cases c1 : x.gKind = 1
    · rw [if_pos (by simpa using c1), if_pos c1, l03Has _ (by omega) (by omega)]
      simp only [Option.bind_some]
      by_cases hs : x.gNum ∈ s
      · rw [if_pos (by simpa using hs), if_pos (by simp; omega), if_pos hs]
      · rw [if_neg (by simpa using hs), if_pos (by simp; omega), if_pos (by simp; omega), if_pos (by simp; omega), if_neg hs]
    rw [if_neg (by simpa using c1), if_neg c1, if_pos (by simp; omega)]
    have e := l12Words_L1 (k := k) (f := pspec_l12Words k) (x := x) (by omega) (fun y hy o s g1 g2 => by have := nsum_mem (n := nT) hy; exact l12Words k y (by omega) (by omega) o s g1 g2) k 0 (o ++ [GIns.mk 5 x.gName 0 (x.gKids.length : Int)]) s (by omega) (by omega) (by simp only [List.drop_zero, List.length_append, List.length_singleton]; omega) (by rw [List.drop_zero]; omega)
    rw [show ((0 : Nat) : Int) = 0 from rfl, List.drop_zero] at e
    rw [e]
    simp

theorem wordsOf_L1 {k : Nat} {x : GTerm} {f : GTerm → List Int → Option (List GIns × List Int)} (hx : x.gKids.length ≤ 1048576)
    (hf : ∀ y ∈ x.gKids, ∀ s, s.length + 1 + nT y ≤ 8388608 → f y s = some (W y s)) :
    ∀ (m j : Nat) (o : List GIns) (s : List Int), j ≤ x.gKids.length → x.gKids.length - j < m → o.length + nsum nT (x.gKids.drop j) ≤ 8388608 → s.length + nsum nT (x.gKids.drop j) ≤ 8388608 →
      pimpl_wordsOf_L1 k f x m s o (j : Int) = some (.done ((Ws (x.gKids.drop j) s).2, o ++ (Ws (x.gKids.drop j) s).1))
  | 0, j, o, s, h1, h2, h3, h4 => by omega
  | m + 1, j, o, s, h1, h2, h3, h4 => by
    have hm : x.gKids.length ≤ maxLen := by rw [maxLen_eq]; omega
    unfold pimpl_wordsOf_L1
    by_cases hlt : j < x.gKids.length
    · rw [ns_drop hlt] at h3 h4
      have hl := W_len x.gKids[j] s
      rw [if_pos (by simpa using hlt), at_lt hlt]
      simp only [Option.bind_some]
      rw [hf _ (List.getElem_mem hlt) s (by omega)]
      simp only [Option.bind_some]
      rw [if_pos (by omega), wr_succ hlt hm, wordsOf_L1 hx hf m (j + 1) _ _ (by omega) (by omega) (by simp only [List.length_append]; omega) (by omega), Ws_drop hlt]
      simp only [List.append_assoc]
    · rw [if_neg (by simpa using hlt), List.drop_of_length_le (by omega), Ws, List.append_nil]

theorem wordsOf : ∀ (k : Nat) (x : GTerm), maxLen + 2 * nT x + 2 < k → nT x ≤ 1048576 → ∀ s, s.length + 1 + nT x ≤ 8388608 → pimpl_wordsOf k x s = some (W x s)
  | 0, x, h => by omega
  | k + 1, x, hw => by
    intro hn s h2
    have hk := nT_kids x
    have hlen := nsum_len nT x.gKids
    have hm : maxLen = 9223372036854775807 := maxLen_eq
    unfold pimpl_wordsOf
    rw [W_eq]
    by_cases c2 : x.gKind = 2
    · rw [if_pos (by simpa using c2), if_pos c2]
    rw [if_neg (by simpa using c2), if_neg c2]
    by_cases c3 : x.gKind = 3
    · rw [if_pos (by simpa using c3), if_pos c3]
    rw [if_neg (by simpa using c3), if_neg c3]
    by_cases c1 : x.gKind = 1
    · rw [if_pos (by simpa using c1), if_pos c1, contains _ (by omega) (by omega)]
      simp only [Option.bind_some]
      by_cases hs : x.gNum ∈ s
      · rw [if_pos (by simpa using hs), if_pos hs]
      · rw [if_neg (by simpa using hs), if_pos (by simp; omega), if_neg hs]
    rw [if_neg (by simpa using c1), if_neg c1]
    have e := wordsOf_L1 (k := k) (f := pimpl_wordsOf k) (x := x) (by omega) (fun y hy s g2 => by have := nsum_mem (n := nT) hy; exact wordsOf k y (by omega) (by omega) s g2) k 0 [GIns.mk 5 x.gName 0 (x.gKids.length : Int)] s (by omega) (by omega) (by simp only [List.drop_zero, List.length_singleton]; omega) (by rw [List.drop_zero]; omega)
    rw [show ((0 : Nat) : Int) = 0 from rfl, List.drop_zero] at e
    rw [e]
    simp

/-- Each number once. -/
def uniq : List Int → List Int → List Int
  | [], o => o
  | x :: l, o => uniq l (if x ∈ o then o else o ++ [x])
theorem uniq_len : ∀ (l o : List Int), (uniq l o).length ≤ o.length + l.length
  | [], o => by simp [uniq]
  | x :: l, o => by
    have h := uniq_len l (if x ∈ o then o else o ++ [x])
    rw [uniq]
    split at h
    · rename_i c; rw [if_pos c]; simp only [List.length_cons]; omega
    · rename_i c; rw [if_neg c]; simp only [List.length_append, List.length_cons, List.length_nil] at h ⊢; omega
theorem uniq_drop {l : List Int} {j : Nat} (h : j < l.length) (o : List Int) : uniq (l.drop j) o = uniq (l.drop (j + 1)) (if l[j] ∈ o then o else o ++ [l[j]]) := by
  rw [List.drop_eq_getElem_cons h, uniq]
theorem specOwn {k : Nat} {l : List Int} (hl : l.length ≤ 8388608) (hk : maxLen < k) : ∀ (m j : Nat) (o : List Int), j ≤ l.length → l.length - j < m → o.length ≤ j → pspec_WordsOf_L1 k l m o (j : Int) = some (.done (uniq (l.drop j) o))
  | 0, j, o, h1, h2, h3 => by omega
  | m + 1, j, o, h1, h2, h3 => by
    have hm : l.length ≤ maxLen := by rw [maxLen_eq]; omega
    unfold pspec_WordsOf_L1
    by_cases hlt : j < l.length
    · rw [if_pos (by simpa using hlt), at_lt hlt]
      simp only [Option.bind_some]
      rw [l03Has _ (by omega) hk]
      simp only [Option.bind_some]
      rw [uniq_drop hlt, wr_succ hlt hm]
      by_cases hs : l[j] ∈ o
      · rw [if_neg (by simp [hs]), if_pos hs, specOwn hl hk m (j + 1) _ (by omega) (by omega) (by omega)]
      · rw [if_pos (by simp [hs]), if_neg hs, if_pos (by simp; omega), specOwn hl hk m (j + 1) _ (by omega) (by omega) (by simp; omega)]
    · rw [if_neg (by simpa using hlt), List.drop_of_length_le (by omega), uniq]
theorem implOwn {k : Nat} {l : List Int} (hl : l.length ≤ 8388608) (hk : maxLen < k) : ∀ (m j : Nat) (o : List Int), j ≤ l.length → l.length - j < m → o.length ≤ j → pimpl_WordsOf_L1 k l m o (j : Int) = some (.done (uniq (l.drop j) o))
  | 0, j, o, h1, h2, h3 => by omega
  | m + 1, j, o, h1, h2, h3 => by
    have hm : l.length ≤ maxLen := by rw [maxLen_eq]; omega
    unfold pimpl_WordsOf_L1
    by_cases hlt : j < l.length
    · rw [if_pos (by simpa using hlt), at_lt hlt]
      simp only [Option.bind_some]
      rw [contains _ (by omega) hk]
      simp only [Option.bind_some]
      rw [uniq_drop hlt, wr_succ hlt hm]
      by_cases hs : l[j] ∈ o
      · rw [if_neg (by simp [hs]), if_pos hs, implOwn hl hk m (j + 1) _ (by omega) (by omega) (by omega)]
      · rw [if_pos (by simp [hs]), if_neg hs, if_pos (by simp; omega), implOwn hl hk m (j + 1) _ (by omega) (by omega) (by simp; omega)]
    · rw [if_neg (by simpa using hlt), List.drop_of_length_le (by omega), uniq]

/-- What both answer. -/
def WO (t : GTerm) (l : List Int) : List GIns × List Int := if tOk t then W t (uniq l []) else ([], uniq l [])
theorem WO_len (t : GTerm) (l : List Int) (ht : nT t ≤ 1048576) : (WO t l).1.length ≤ 400 ∧ (WO t l).2.length ≤ l.length + 400 := by
  have h1 := W_len t (uniq l [])
  have h2 := uniq_len l []
  unfold WO
  cases h : tOk t with
  | false => rw [if_neg (by simp)]; simp at h2 ⊢; omega
  | true =>
    have : 1 + nT t ≤ 400 := by unfold tOk at h; simp at h; omega
    rw [if_pos rfl]; simp at h2; omega
theorem spec_WordsOf {k : Nat} {t : GTerm} {l : List Int} (hw : maxLen + 2 * nT t + 2 < k) (hn : nT t ≤ 1048576) (ht : t.ok) (hl : l.length ≤ 4194304) : pspec_WordsOf k t l = some (WO t l) := by
  have hu := uniq_len l []
  have e := specOwn (k := k) (l := l) (by omega) (by omega) k 0 [] (by omega) (by have := maxLen_eq; omega) (by simp)
  rw [show ((0 : Nat) : Int) = 0 from rfl, List.drop_zero] at e
  unfold pspec_WordsOf WO
  simp only [e, Option.bind_some, spec_TermOk hw ht]
  cases h : tOk t with
  | false => simp
  | true =>
    simp only [List.length_nil, Nat.zero_add] at hu
    rw [if_neg (by simp), l12Words k t hw hn [] (uniq l []) (by simp; omega) (by omega)]
    simp
theorem impl_WordsOf {k : Nat} {t : GTerm} {l : List Int} (hw : maxLen + 2 * nT t + 2 < k) (hn : nT t ≤ 1048576) (ht : t.ok) (hl : l.length ≤ 4194304) : pimpl_WordsOf k t l = some (WO t l) := by
  have hu := uniq_len l []
  have e := implOwn (k := k) (l := l) (by omega) (by omega) k 0 [] (by omega) (by have := maxLen_eq; omega) (by simp)
  rw [show ((0 : Nat) : Int) = 0 from rfl, List.drop_zero] at e
  unfold pimpl_WordsOf WO
  simp only [e, Option.bind_some, impl_TermOk hw ht]
  cases h : tOk t with
  | false => simp
  | true =>
    simp only [List.length_nil, Nat.zero_add] at hu
    rw [if_neg (by simp), wordsOf k t hw hn (uniq l []) (by omega)]
    simp
theorem d_same : @pimpl_WordsOf_d = @pimpl_WordsOf := by kernel_rfl
theorem nflat {α : Type} : ∀ l : List α, nsum (fun _ => 0) l = l.length
  | [] => rfl
  | x :: l => by simp only [nsum, nflat l, List.length_cons]; omega
theorem nIns_len (l : List GIns) : nsum nIns l = l.length := by
  have : nIns = fun _ => 0 := by funext x; rfl
  rw [this]; exact nflat l

theorem law (x : GTerm) (l : List Int) (hx : x.ok) (hl : okL (okI .i64) l) : ∃ k, plaws_FnExactWordsOf k x l = some true := by
  obtain ⟨k, hk⟩ : ∃ k, maxLen + 4 * nT x + 1099511627776 < k := ⟨_, Nat.lt_succ_self _⟩
  refine ⟨k, ?_⟩
  have hm : maxLen = 9223372036854775807 := maxLen_eq
  have hH : Huge = 1152921504606846976 := rfl
  have hw : maxLen + 2 * nT x + 2 < k := by omega
  unfold plaws_FnExactWordsOf
  by_cases hll : (l.length : Int) > 1048576
  · rw [if_pos (by simpa using hll)]
  rw [if_neg (by simpa using hll)]
  have nl := nflat l
  obtain ⟨r, e1, h2, h3⟩ := szTerm (k := k) hw hx 1048576 (by omega) (by unfold Small; omega)
  rw [e1]
  simp only [Option.bind_some]
  by_cases hr : r < 0
  · rw [if_pos (by simpa using hr)]
  rw [if_neg (by simpa using hr)]
  have hn : nT x ≤ 1048576 := by omega
  have t0 := toTerm (k := k) hw hn
  have t1 : plaws_toTerm_d k x = some x := by rw [plaws_toTerm_dd]; exact t0
  have t02 := toIntS (k := k) (l := l) (by omega) (by omega)
  have t12 : plaws_toIntS_d k l = some l := by rw [plaws_toIntS_dd]; exact t02
  have e2 := spec_WordsOf (k := k) hw hn hx (l := l) (by omega)
  have e3 := impl_WordsOf (k := k) hw hn hx (l := l) (by omega)
  have e4 : pimpl_WordsOf_d k x l = some (WO x l) := by rw [d_same]; exact e3
  have hp := WO_len x l hn
  generalize WO x l = p at e2 e3 e4 hp
  have np1 := nIns_len p.1
  have np2 := nflat p.2
  obtain ⟨u, c, a1, a4, a5⟩ := markTerm (k := k) (x := x) hw 1 (by omega) (by omega)
  obtain ⟨u2, c2, a12, a13, a42, a52⟩ := markIntS (k := k) (l := l) (by omega) c (by omega) (by omega)
  obtain ⟨z, d, b1, b2, b4, b5⟩ := markInsS (k := k) (l := p.1) (by omega) 1 (by omega) (by omega)
  obtain ⟨z2, d2, b12, b22, b42, b52⟩ := markIntS (k := k) (l := p.2) (by omega) d (by omega) (by omega)
  have q1 := eqInsS (k := k) (l := p.1) (by omega) (by omega)
  have q2 := eqIntS (k := k) (l := p.2) (by omega) (by omega)
  have q3 := eqTerm (k := k) (x := x) hw (by omega)
  have q4 := eqIntS (k := k) (l := l) (by omega) (by omega)
  have hc : ∀ c : Int, 1 ≤ c → (decide (c < 0)) = false := fun c h => by simpa using (by omega : 0 ≤ c)
  simp only [t0, t1, t02, t12, e2, e3, e4, q1, q2, q3, q4, a1, a12, b1, b12, b2, b22, hc c2 (by omega), hc d b4, hc d2 (by omega), Option.bind_some, Bool.not_true, Bool.false_eq_true, if_false, bne_self_eq_false, beq_self_eq_true]
end FnExactWordsOf
end Go.Proofs.Ytbfkmgenokhkgaa

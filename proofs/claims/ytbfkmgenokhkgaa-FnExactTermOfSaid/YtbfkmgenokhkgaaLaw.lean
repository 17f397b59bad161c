/- The law, plainly. -/
import Derived.Test.YtbfkmgenokhkgaaFn
set_option linter.unusedVariables false
set_option linter.unusedSimpArgs false
namespace Go.Proofs.Ytbfkmgenokhkgaa
open Go.RowKit Go.Bv
namespace FnExactTermOf
/-- Room for the marks. -/
theorem markText_loop (k : Nat) : ∀ (j m : Nat) (b : Int) (e : ByteArray), j < m → 0 ≤ b → b < 2 ^ j → j ≤ 61 → e.size + j ≤ 1000 →
    ∃ s, plaws_markText_L1 k m b e = some (.done s) ∧ s.size ≤ 1000
  | j, 0, b, e, h1, _, _, _, _ => by omega
  | 0, m + 1, b, e, h1, h2, h3, h4, h5 => by
    unfold plaws_markText_L1
    rw [if_neg (by simp at h3 ⊢; omega)]
    exact ⟨e, rfl, by omega⟩
  | j + 1, m + 1, b, e, h1, h2, h3, h4, h5 => by
    unfold plaws_markText_L1
    by_cases hb : b > 0
    · have hp : (2 : Int) ^ (j + 1) = 2 * 2 ^ j := by rw [Int.pow_succ]; omega
      have hj : (2 : Int) ^ j ≤ 2 ^ 61 := by
        have : (2 : Nat) ^ j ≤ 2 ^ 61 := Nat.pow_le_pow_right (by omega) (by omega)
        exact_mod_cast this
      have hq : Int.tdiv b 10 = b / 10 := Int.tdiv_eq_ediv_of_nonneg h2
      have hs : (strOfNums [wr.u8 (wr.i64 (48 + (Int.tmod b 10)))]).size = 1 := rfl
      rw [if_pos (by simpa using hb), if_pos (by omega), if_pos (by unfold sumOk; rw [hs]; omega), if_pos (by omega), hq, wr_i64 (by omega) (by omega)]
      exact markText_loop k j m (b / 10) _ (by omega) (by omega) (by omega) (by omega) (by rw [ByteArray.size_append, hs]; omega)
    · rw [if_neg (by simpa using hb)]; exact ⟨e, rfl, by omega⟩

theorem markText {k : Nat} (hk : maxLen < k) (b : Int) (h0 : 0 ≤ b) (h1 : b ≤ Huge) : ∃ s, plaws_markText k b = some s := by
  unfold plaws_markText
  by_cases hb : b ≤ 0
  · rw [if_pos (by simpa using hb)]; exact ⟨_, rfl⟩
  · rw [if_neg (by simpa using hb)]
    rw [maxLen_eq] at hk
    have hH : Huge = 1152921504606846976 := rfl
    have hp : (2 : Int) ^ 61 = 2305843009213693952 := by decide
    obtain ⟨s, h2, h3⟩ := markText_loop k 61 k b (bs []) (by omega) h0 (by rw [hp]; omega) (by omega) (by have : (bs []).size = 0 := rfl; omega)
    rw [h2]
    simp only [Option.bind_some]
    rw [if_pos (by unfold sumOk; have : (bs [109]).size = 1 := rfl; omega)]
    exact ⟨_, rfl⟩
mutual
/-- How many terms stand in a term. -/
def nT : GTerm → Nat
  | .mk _ _ _ l => nTs l
def nTs : List GTerm → Nat
  | [] => 0
  | x :: l => 1 + nT x + nTs l
end
theorem nTs_eq : ∀ l : List GTerm, nTs l = nsum nT l
  | [] => by rw [nTs]; rfl
  | x :: l => by rw [nTs, nsum, nTs_eq l]
theorem nT_kids (x : GTerm) : nT x = nsum nT x.gKids := by
  cases x with
  | mk a b c l => rw [nT, nTs_eq]; rfl

theorem ok_kids {x : GTerm} (h : x.ok) : okL GTerm.ok x.gKids := by cases h with | mk a b c l h1 h2 h3 h4 h5 => exact ⟨h4, h5⟩
theorem ok_name {x : GTerm} (h : x.ok) : okFs x.gName := by cases h with | mk a b c l h1 h2 h3 h4 h5 => exact h2
theorem ok_kind {x : GTerm} (h : x.ok) : okI .i64 x.gKind := by cases h with | mk a b c l h1 h2 h3 h4 h5 => exact h1
theorem ok_num {x : GTerm} (h : x.ok) : okI .i64 x.gNum := by cases h with | mk a b c l h1 h2 h3 h4 h5 => exact h3

theorem mk_gKind (a : Int) (b : ByteArray) (c : Int) (l : List GTerm) : (GTerm.mk a b c l).gKind = a := rfl
theorem mk_gName (a : Int) (b : ByteArray) (c : Int) (l : List GTerm) : (GTerm.mk a b c l).gName = b := rfl
theorem mk_gNum (a : Int) (b : ByteArray) (c : Int) (l : List GTerm) : (GTerm.mk a b c l).gNum = c := rfl
theorem mk_gKids (a : Int) (b : ByteArray) (c : Int) (l : List GTerm) : (GTerm.mk a b c l).gKids = l := rfl
theorem eqBoth : ∀ k : Nat, (∀ l, maxLen + 2 * nsum nT l + 1 < k → nsum nT l ≤ Huge → plaws_eqTermS k l l = some true) ∧ (∀ x, maxLen + 2 * nT x + 2 < k → nT x ≤ Huge → plaws_eqTerm k x x = some true)
  | 0 => ⟨fun l h => by omega, fun x h => by omega⟩
  | k + 1 => by
    obtain ⟨ih1, ih2⟩ := eqBoth k
    refine ⟨?_, ?_⟩
    · intro l hw hl
      have := nsum_len nT l
      exact eq2 (f := plaws_eqTerm k) (L := plaws_eqTermS_L1 k (plaws_eqTerm k) (plaws_eqTermS k) l l) (by omega) (fun x hx => by have := nsum_mem (n := nT) hx; exact ih2 x (by omega) (by omega)) (fun m i => rfl) (by omega)
    · intro x hw hx
      have hk := nT_kids x
      unfold plaws_eqTerm
      rw [ih1 x.gKids (by omega) (by omega)]
      simp [sEq_refl]
theorem eqTermS {k : Nat} {l : List GTerm} (hw : maxLen + 2 * nsum nT l + 2 < k) (hl : nsum nT l ≤ Huge) : plaws_eqTermS k l l = some true := (eqBoth k).1 l (by omega) hl
theorem eqTerm {k : Nat} {x : GTerm} (hw : maxLen + 2 * nT x + 2 < k) (hl : nT x ≤ Huge) : plaws_eqTerm k x x = some true := (eqBoth k).2 x hw hl
theorem markTermS1 : ∀ (k : Nat) (l : List GTerm), maxLen + 2 * nsum nT l + 1 < k → ∀ b : Int, 1 ≤ b → b + 16 * (nsum nT l : Int) ≤ Huge →
    ∃ l' c, plaws_markTermS k l b = some (l', c) ∧ plaws_heldTermS k l' b = some c ∧ b ≤ c ∧ c ≤ b + 16 * (nsum nT l : Int)
  | 0, l, h => by omega
  | k + 1, l, hw => by
    intro b h1 h2
    have hH : Huge = 1152921504606846976 := rfl
    have key := mark2 (n := nT) (ok := fun x => maxLen + 2 * nT x + 1 < k)
      (good := fun b x c => 1 ≤ b ∧ b ≤ c ∧ c ≤ Huge ∧ x.gKind = b ∧ plaws_markText k (b + 1) = some x.gName ∧ x.gNum = b + 2 ∧ b + 3 ≤ Huge ∧ plaws_heldTermS k x.gKids (b + 3) = some c)
      (L := plaws_markTermS_L1 k (plaws_markTermS k)) (H := plaws_heldTermS_L1 k (plaws_heldTermS k))
      (fun m b l => by unfold plaws_markTermS_L1; rw [if_neg (by simp)])
      (fun m b j l x hx hj hat h1 h2 => by
        have hk := nT_kids x
        obtain ⟨s, hs⟩ := markText (k := k) (by omega) (b + 1) (by omega) (by omega)
        obtain ⟨l', c, e1, e2, e3, e4⟩ := markTermS1 k x.gKids (by omega) (b + 3) (by omega) (by omega)
        refine ⟨.mk b s (b + 2) l', c, ⟨h1, by omega, by omega, rfl, hs, rfl, by omega, e2⟩, by omega, by omega, fun hlt => ?_⟩
        have w1 : wr.i64 (b + 1) = b + 1 := by have := wr_i64 (x := b + 1) (by omega) (by omega); omega
        have w2 : wr.i64 (b + 1 + 1) = b + 2 := by have := wr_i64 (x := b + 1 + 1) (by omega) (by omega); omega
        have w3 : wr.i64 (b + 2 + 1) = b + 3 := by have := wr_i64 (x := b + 2 + 1) (by omega) (by omega); omega
        have hset : ∀ (l : List GTerm) (y z : GTerm), at' l (j : Int) = some y → at' (l.set ((j : Int)).toNat z) (j : Int) = some z := fun l y z h => at_is h
        rw [plaws_markTermS_L1, if_pos (by simpa using hlt), hat]
        simp only [Option.bind_some, w1, w2, w3, hs]
        rw [hset _ _ _ hat]
        simp only [Option.bind_some]
        rw [hset _ _ _ (hset _ _ _ hat)]
        simp only [Option.bind_some]
        rw [hset _ _ _ (hset _ _ _ (hset _ _ _ hat))]
        simp only [Option.bind_some, mk_gKids, mk_gKind, mk_gName, mk_gNum]
        simp only [e1, Option.bind_some, cast_succ hj, List.set_set, Int.toNat_natCast])
      (fun l m b => by unfold plaws_heldTermS_L1; rw [if_neg (by simp)])
      (fun l m b c j x hj hat hg hlt => by
        obtain ⟨h1, h2, h3, h4, h5, h6, h7, h8⟩ := hg
        have w1 : wr.i64 (b + 1) = b + 1 := by have := wr_i64 (x := b + 1) (by omega) (by omega); omega
        have w2 : wr.i64 (b + 1 + 1) = b + 2 := by have := wr_i64 (x := b + 1 + 1) (by omega) (by omega); omega
        have w3 : wr.i64 (b + 2 + 1) = b + 3 := by have := wr_i64 (x := b + 2 + 1) (by omega) (by omega); omega
        rw [plaws_heldTermS_L1, if_pos (by simpa using hlt), hat]
        simp only [Option.bind_some, w1, w2, w3]
        rw [if_neg (by simp [h4]), h5]
        simp only [Option.bind_some]
        rw [if_neg (by simp [sEq_refl]), if_neg (by simp [h6]), h8]
        simp only [Option.bind_some]
        rw [if_neg (by simp; omega), cast_succ hj])
      (k := k) (by omega) l (fun x hx => by have := nsum_mem (n := nT) hx; omega) b h1 h2
    obtain ⟨l', c, e1, e2, e3, e4⟩ := key
    refine ⟨l', c, ?_, ?_, e3, e4⟩
    · unfold plaws_markTermS; rw [e1]; rfl
    · unfold plaws_heldTermS; rw [e2]; rfl
theorem markTermS {k : Nat} {l : List GTerm} (hw : maxLen + 2 * nsum nT l + 2 < k) (b : Int) (h1 : 1 ≤ b) (h2 : b + 16 * (nsum nT l : Int) ≤ Huge) :
    ∃ l' c, plaws_markTermS k l b = some (l', c) ∧ plaws_heldTermS k l' b = some c ∧ b ≤ c ∧ c ≤ b + 16 * (nsum nT l : Int) := markTermS1 k l (by omega) b h1 h2
theorem markTerm {k : Nat} {x : GTerm} (hw : maxLen + 2 * nT x + 2 < k) (b : Int) (h1 : 1 ≤ b) (h2 : b + 16 * (nT x : Int) ≤ Huge) :
    ∃ y c, plaws_markTerm k x b = some (y, c) ∧ plaws_heldTerm k (GTerm.mk x.gKind x.gName x.gNum y.gKids) b = some c ∧ plaws_heldTerm k y b = some c ∧ b ≤ c ∧ c ≤ b + 16 * (nT x : Int) := by
  have hk := nT_kids x
  obtain ⟨l', c, e1, e2, e3, e4⟩ := markTermS (k := k) (l := x.gKids) (by omega) b h1 (by omega)
  have hh : plaws_heldTerm k (.mk x.gKind x.gName x.gNum l') b = some c := by
    unfold plaws_heldTerm
    rw [show (GTerm.mk x.gKind x.gName x.gNum l').gKids = l' from rfl, e2]
    simp only [Option.bind_some]
    rw [if_neg (by simp; omega)]
  refine ⟨.mk x.gKind x.gName x.gNum l', c, ?_, hh, hh, e3, by omega⟩
  unfold plaws_markTerm; rw [e1]; rfl
def nIns (x : GIns) : Nat := 0

theorem szIns {k : Nat} {x : GIns} (hw : maxLen + 2 * (nIns x) + 2 < k) (hx : x.ok) (b : Int) (h0 : 0 ≤ b) (h1 : b ≤ Small) : ∃ r, plaws_szIns k x b = some r ∧ -1 ≤ r ∧ (0 ≤ r → r + (nIns x : Int) ≤ b) := by
  unfold nIns at *
  unfold plaws_szIns
  have hS : Small = 1048576 := rfl
  have hs1 : x.gName.size ≤ 9223372036854775807 := by have := hx.2.1; unfold okFs at this; rw [maxLen_eq] at this; exact this
  have hr1 : wr.i64 (b - (x.gName.size : Int)) = (b - (x.gName.size : Int)) := wr_i64 (by omega) (by omega)
  rw [hr1]
  by_cases c1 : (b - (x.gName.size : Int)) < 0
  · rw [if_pos (by simpa using c1)]; exact ⟨_, rfl, by omega, by omega⟩
  rw [if_neg (by simpa using c1)]
  exact ⟨_, rfl, by omega, fun h => by omega⟩

theorem toIns {k : Nat} {x : GIns} (hw : maxLen + 2 * (nIns x) + 2 < k) (hx : nIns x ≤ 1048576) : plaws_toIns k x = some x := by
  unfold nIns at *
  unfold plaws_toIns
  rfl

theorem eqIns {k : Nat} {x : GIns} (hw : maxLen + 2 * (nIns x) + 2 < k) (hx : nIns x ≤ Huge) : plaws_eqIns k x x = some true := by
  unfold nIns at *
  unfold plaws_eqIns
  simp [sEq_refl]

theorem szInsS {k : Nat} {l : List GIns} (hw : maxLen + 2 * (nsum nIns l) + 2 < k) (hl : okL (GIns.ok) l) (b : Int) (h0 : 0 ≤ b) (h1 : b ≤ Small) : ∃ r, plaws_szInsS k l b = some r ∧ -1 ≤ r ∧ (0 ≤ r → r + (nsum nIns l : Int) ≤ b) := by
  exact sz2 (f := plaws_szIns k) (L := plaws_szInsS_L1 k l) hl.1 (fun x hx b h0 h1 => by have := nsum_mem (n := nIns) hx; exact szIns (by omega) (hl.2 x hx) b h0 h1) (fun m b i => rfl) (by omega) b h0 h1

theorem toInsS {k : Nat} {l : List GIns} (hw : maxLen + 2 * (nsum nIns l) + 2 < k) (hl : nsum nIns l ≤ 1048576) : plaws_toInsS k l = some l := by
  have := nsum_len nIns l
  have h := to2 (f := plaws_toIns k) (L := plaws_toInsS_L1 k l) (by omega) (fun x hx => by have := nsum_mem (n := nIns) hx; exact toIns (by omega) (by omega)) (fun m i o => rfl) (k := k) (by omega) (GIns.mk 0 (bs []) 0 0)
  unfold plaws_toInsS
  rw [if_pos h.1, h.2]; rfl

theorem plaws_toInsS_dd : @plaws_toInsS_d = @plaws_toInsS := by kernel_rfl

theorem eqInsS {k : Nat} {l : List GIns} (hw : maxLen + 2 * (nsum nIns l) + 2 < k) (hl : nsum nIns l ≤ Huge) : plaws_eqInsS k l l = some true := by
  have := nsum_len nIns l
  exact eq2 (f := plaws_eqIns k) (L := plaws_eqInsS_L1 k l l) (by omega) (fun x hx => by have := nsum_mem (n := nIns) hx; exact eqIns (by omega) (by omega)) (fun m i => rfl) (k := k) (by omega)

theorem markInsS {k : Nat} {l : List GIns} (hw : maxLen + 2 * (nsum nIns l) + 2 < k) (b : Int) (h1 : 1 ≤ b) (h2 : b + 16 * (nsum nIns l : Int) ≤ Huge) :
    ∃ l' c, plaws_markInsS k l b = some (l', c) ∧ b ≤ c ∧ c ≤ b + 16 * (nsum nIns l : Int) := by
  have hm : maxLen = 9223372036854775807 := maxLen_eq
  have hH : Huge = 1152921504606846976 := rfl
  have h3 : (if (3 : Int) ≠ 0 then True else False) = True := by decide
  have hlen := nsum_len nIns l
  have key := mark1 (n := nIns) (ok := fun x => maxLen + 2 * (nIns x) + 2 < k)

    (L := plaws_markInsS_L1 k)
    (fun m b l => by unfold plaws_markInsS_L1; rw [if_neg (by simp)])
    (fun m b j l x hx hj hat h1 h2 => by
      try unfold nIns at *
      obtain ⟨s1, t1⟩ := markText (k := k) (by omega) (b + 1) (by omega) (by omega)
      refine ⟨(GIns.mk b s1 (b + 2) (b + 3)), (b + 4), (by omega), (by omega), fun hlt => ?_⟩
      have w0 : wr.i64 (b + 1) = b + 1 := by have := wr_i64 (x := b + 1) (by omega) (by omega); omega
      have w1 : wr.i64 (b + 1 + 1) = b + 2 := by have := wr_i64 (x := b + 1 + 1) (by omega) (by omega); omega
      have w2 : wr.i64 (b + 2 + 1) = b + 3 := by have := wr_i64 (x := b + 2 + 1) (by omega) (by omega); omega
      have w3 : wr.i64 (b + 3 + 1) = b + 4 := by have := wr_i64 (x := b + 3 + 1) (by omega) (by omega); omega
      have hat' : (at' l (j : Int)).isSome = true := by rw [hat]; rfl
      rw [plaws_markInsS_L1, if_pos (by simpa using hlt)]
      simp only [hat, hat', Option.isSome_some, Option.bind_some, w0, w1, w2, w3, t1, at_set, at_set_some, cast_succ hj, List.set_set, Int.toNat_natCast, if3])
    (k := k) (by omega) l (fun x hx => by have := nsum_mem (n := nIns) hx; omega) b h1 h2
  obtain ⟨l', c, e1, e3, e4⟩ := key
  refine ⟨l', c, ?_, e3, e4⟩
  unfold plaws_markInsS; rw [e1]; rfl
/-- Is it within these bounds? -/
def inR (x a b : Int) : Bool := decide (a ≤ x ∧ x ≤ b)
theorem inR_t {x a b : Int} (h : a ≤ x ∧ x ≤ b) : inR x a b = true := decide_eq_true h
theorem inR_f {x a b : Int} (h : ¬ (a ≤ x ∧ x ≤ b)) : inR x a b = false := decide_eq_false h

theorem l01In (k : Nat) (x a b : Int) : pspec_l01In k x a b = some (inR x a b) := by
  unfold pspec_l01In inR
  by_cases h : a ≤ x
  · rw [if_pos (by simpa using h)]; simp [h]
  · rw [if_neg (by simpa using h)]; simp [h]

theorem within (k : Nat) (x a b : Int) : pimpl_within k x a b = some (inR x a b) := by
  unfold pimpl_within inR
  by_cases h : a ≤ x
  · rw [if_pos (by simpa using h)]; simp [h]
  · rw [if_neg (by simpa using h)]; simp [h]
theorem bt_le (s : ByteArray) (i : Int) : 0 ≤ bt s i ∧ bt s i ≤ 255 := by
  unfold bt
  have : ((s[i.toNat]?).getD 0).toNat < 256 := ((s[i.toNat]?).getD 0).toNat_lt
  omega
/-- A byte that a name may have. -/
def gb (s : ByteArray) (i : Nat) : Prop := 33 ≤ bt s (i : Int) ∧ bt s (i : Int) ≤ 126 ∧ bt s (i : Int) ≠ 39 ∧ bt s (i : Int) ≠ 34
instance (s : ByteArray) (i : Nat) : Decidable (gb s i) := by unfold gb; infer_instance
/-- A name. -/
def nmOk (s : ByteArray) : Prop := (∀ i, i < s.size → gb s i) ∧ 1 ≤ s.size ∧ s.size ≤ 20
instance (s : ByteArray) : Decidable (nmOk s) := by unfold nmOk; infer_instance

theorem l03Name_L1 (k : Nat) (s : ByteArray) (hs : s.size ≤ maxLen) : ∀ (m n : Nat), n ≤ s.size → s.size - n < m →
    ∃ o, pspec_l03Name_L1 k s m (n : Int) = some o ∧ (match o with | .ret r => r = false ∧ ∃ i, i < s.size ∧ ¬ gb s i | .done _ => ∀ i, n ≤ i → i < s.size → gb s i)
  | 0, n, h1, h2 => by omega
  | m + 1, n, h1, h2 => by
    unfold pspec_l03Name_L1
    by_cases hlt : n < s.size
    · have hg : 0 ≤ (n : Int) ∧ (n : Int).toNat < s.size := ⟨by omega, by simpa using hlt⟩
      have bad : ∀ b : Prop, (gb s n → ¬ b) → b → ∃ o, (some (Out.ret false) : Option (Out Bool Unit)) = some o ∧ (match o with | .ret r => r = false ∧ ∃ i, i < s.size ∧ ¬ gb s i | .done _ => ∀ i, n ≤ i → i < s.size → gb s i) :=
        fun b h hb => ⟨_, rfl, rfl, n, hlt, fun h' => h h' hb⟩
      rw [if_pos (by simpa using hlt), if_pos hg]
      by_cases c1 : bt s (n : Int) < 33
      · rw [if_pos (by simpa using c1)]; exact bad _ (fun h => by have := h.1; omega) c1
      rw [if_neg (by simpa using c1), if_pos hg]
      by_cases c2 : bt s (n : Int) > 126
      · rw [if_pos (by simpa using c2)]; exact bad _ (fun h => by have := h.2.1; omega) c2
      rw [if_neg (by simpa using c2), if_pos hg]
      by_cases c3 : bt s (n : Int) = 39
      · rw [if_pos (by simpa using c3)]; exact bad _ (fun h => h.2.2.1) c3
      rw [if_neg (by simpa using c3), if_pos hg]
      by_cases c4 : bt s (n : Int) = 34
      · rw [if_pos (by simpa using c4)]; exact bad _ (fun h => h.2.2.2) c4
      rw [if_neg (by simpa using c4), wr_succ hlt hs]
      obtain ⟨o, h3, h4⟩ := l03Name_L1 k s hs m (n + 1) (by omega) (by omega)
      refine ⟨o, h3, ?_⟩
      cases o with
      | ret r => exact h4
      | done u =>
        intro i hi1 hi2
        by_cases e : i = n
        · subst e; exact ⟨by omega, by omega, c3, c4⟩
        · exact h4 i (by omega) hi2
    · rw [if_neg (by simpa using hlt)]
      exact ⟨_, rfl, fun i h3 h4 => by omega⟩

theorem nameOk_L1 (k : Nat) (s : ByteArray) (hs : s.size ≤ maxLen) : ∀ (m n : Nat), n ≤ s.size → s.size - n < m →
    ∃ o, pimpl_nameOk_L1 k s m (n : Int) = some o ∧ (match o with | .ret r => r = false ∧ ∃ i, i < s.size ∧ ¬ gb s i | .done _ => ∀ i, n ≤ i → i < s.size → gb s i)
  | 0, n, h1, h2 => by omega
  | m + 1, n, h1, h2 => by
    unfold pimpl_nameOk_L1
    by_cases hlt : n < s.size
    · have hg : 0 ≤ (n : Int) ∧ (n : Int).toNat < s.size := ⟨by omega, by simpa using hlt⟩
      have hb := bt_le s (n : Int)
      have bad : ∀ b : Prop, (gb s n → ¬ b) → b → ∃ o, (some (Out.ret false) : Option (Out Bool Unit)) = some o ∧ (match o with | .ret r => r = false ∧ ∃ i, i < s.size ∧ ¬ gb s i | .done _ => ∀ i, n ≤ i → i < s.size → gb s i) :=
        fun b h hb => ⟨_, rfl, rfl, n, hlt, fun h' => h h' hb⟩
      rw [if_pos (by simpa using hlt), if_pos hg, within, wr_i64 (by omega) (by omega)]
      simp only [Option.bind_some]
      by_cases c1 : 33 ≤ bt s (n : Int) ∧ bt s (n : Int) ≤ 126
      · rw [inR_t c1, if_neg (by simp), if_pos hg]
        by_cases c3 : bt s (n : Int) = 39
        · rw [if_pos (by simpa using c3)]; exact bad _ (fun h => h.2.2.1) c3
        rw [if_neg (by simpa using c3), if_pos hg]
        by_cases c4 : bt s (n : Int) = 34
        · rw [if_pos (by simpa using c4)]; exact bad _ (fun h => h.2.2.2) c4
        rw [if_neg (by simpa using c4), wr_succ hlt hs]
        obtain ⟨o, h3, h4⟩ := nameOk_L1 k s hs m (n + 1) (by omega) (by omega)
        refine ⟨o, h3, ?_⟩
        cases o with
        | ret r => exact h4
        | done u =>
          intro i hi1 hi2
          by_cases e : i = n
          · subst e; exact ⟨by omega, by omega, c3, c4⟩
          · exact h4 i (by omega) hi2
      · rw [inR_f c1, if_pos (by simp)]
        exact bad _ (fun h => by have := h.1; have := h.2.1; omega) c1
    · rw [if_neg (by simpa using hlt)]
      exact ⟨_, rfl, fun i h3 h4 => by omega⟩

theorem nm_of {s : ByteArray} (h : ∀ i, 0 ≤ i → i < s.size → gb s i) : inR (s.size : Int) 1 20 = decide (nmOk s) := by
  unfold inR
  rw [decide_eq_decide]
  unfold nmOk
  constructor
  · intro h1; exact ⟨fun i hi => h i (by omega) hi, by omega, by omega⟩
  · intro h1; obtain ⟨_, h5, h6⟩ := h1; omega

theorem l03Name {k : Nat} {s : ByteArray} (hs : s.size ≤ maxLen) (hk : maxLen < k) : pspec_l03Name k s = some (decide (nmOk s)) := by
  unfold pspec_l03Name
  obtain ⟨o, h1, h2⟩ := l03Name_L1 k s hs k 0 (by omega) (by omega)
  rw [show ((0 : Nat) : Int) = 0 from rfl] at h1
  rw [h1]
  cases o with
  | ret r =>
    obtain ⟨rfl, i, h3, h4⟩ := h2
    have : ¬ nmOk s := fun h => h4 (h.1 i h3)
    simp [this]
  | done u =>
    simp only [Option.bind_some]
    rw [l01In]
    simp only [Option.bind_some]
    rw [nm_of h2]

theorem nameOk {k : Nat} {s : ByteArray} (hs : s.size ≤ maxLen) (hk : maxLen < k) : pimpl_nameOk k s = some (decide (nmOk s)) := by
  unfold pimpl_nameOk
  obtain ⟨o, h1, h2⟩ := nameOk_L1 k s hs k 0 (by omega) (by omega)
  rw [show ((0 : Nat) : Int) = 0 from rfl] at h1
  rw [h1]
  cases o with
  | ret r =>
    obtain ⟨rfl, i, h3, h4⟩ := h2
    have : ¬ nmOk s := fun h => h4 (h.1 i h3)
    simp [this]
  | done u =>
    simp only [Option.bind_some]
    rw [within]
    simp only [Option.bind_some]
    rw [nm_of h2]

/-- The head of a term is as it should be. -/
def one (x : GTerm) : Bool :=
  if x.gKind = 1 then inR x.gNum 0 99999 && (sEq x.gName (bs []) && ((x.gKids.length : Int) == 0))
  else if x.gKind = 2 then decide (nmOk x.gName) && ((x.gNum == 0) && ((x.gKids.length : Int) == 0))
  else if x.gKind = 3 then inR x.gNum (-999999999) 999999999 && (sEq x.gName (bs []) && ((x.gKids.length : Int) == 0))
  else if x.gKind = 4 then decide (nmOk x.gName) && ((x.gNum == 0) && inR (x.gKids.length : Int) 1 5)
  else false
mutual
/-- A term, at a depth, is as it should be. -/
def gT : Int → GTerm → Bool
  | d, .mk a b c l => decide (d ≤ 40) && (one (.mk a b c l) && gTs (d + 1) l)
def gTs : Int → List GTerm → Bool
  | _, [] => true
  | d, x :: l => gT d x && gTs d l
end
theorem gT_eq (d : Int) (x : GTerm) : gT d x = (decide (d ≤ 40) && (one x && gTs (d + 1) x.gKids)) := by
  cases x with
  | mk a b c l => rw [gT]; rfl
theorem gTs_drop {d : Int} {l : List GTerm} {j : Nat} (h : j < l.length) : gTs d (l.drop j) = (gT d l[j] && gTs d (l.drop (j + 1))) := by
  rw [List.drop_eq_getElem_cons h, gTs]
theorem ns_drop {l : List GTerm} {j : Nat} (h : j < l.length) : nsum nT (l.drop j) = 1 + nT l[j] + nsum nT (l.drop (j + 1)) := by
  rw [List.drop_eq_getElem_cons h, nsum]

theorem l03One {k : Nat} {x : GTerm} (hx : okFs x.gName) (hk : maxLen < k) : pspec_l03One k x = some (one x) := by
  have hn := l03Name (k := k) (s := x.gName) hx hk
  unfold pspec_l03One one
  simp only [hn, l01In, Option.bind_some]
  by_cases c1 : x.gKind = 1
  · rw [if_pos (by simpa using c1), if_pos c1]
    cases inR x.gNum 0 99999 <;> cases sEq x.gName (bs []) <;> simp
  rw [if_neg (by simpa using c1), if_neg c1]
  by_cases c2 : x.gKind = 2
  · rw [if_pos (by simpa using c2), if_pos c2]
    cases decide (nmOk x.gName) <;> by_cases h : x.gNum = 0 <;> simp [h]
  rw [if_neg (by simpa using c2), if_neg c2]
  by_cases c3 : x.gKind = 3
  · rw [if_pos (by simpa using c3), if_pos c3]
    cases inR x.gNum (-999999999) 999999999 <;> cases sEq x.gName (bs []) <;> simp
  rw [if_neg (by simpa using c3), if_neg c3]
  by_cases c4 : x.gKind = 4
  · rw [if_pos (by simpa using c4), if_pos c4]
    cases decide (nmOk x.gName) <;> by_cases h : x.gNum = 0 <;> simp [h]
  · rw [if_neg (by simpa using c4), if_neg c4]

/-- What is left of so many terms. -/
def leftOf (v left : Int) (n : Nat) : Prop := -1 ≤ v ∧ (0 ≤ v ↔ (n : Int) ≤ left) ∧ (0 ≤ v → v = left - (n : Int))
theorem l03Count_L1 {k : Nat} {x : GTerm} {f : GTerm → Int → Option Int} (hx : x.gKids.length ≤ maxLen) (hf : ∀ y ∈ x.gKids, ∀ b, 0 ≤ b → b ≤ 400 → ∃ v, f y b = some v ∧ leftOf v b (1 + nT y)) :
    ∀ (m j : Nat) (b : Int), j ≤ x.gKids.length → x.gKids.length - j < m → -1 ≤ b → b ≤ 400 →
      ∃ v, pspec_l03Count_L1 k f x m b (j : Int) = some (.done v) ∧ ((b = -1 ∧ v = -1) ∨ (0 ≤ b ∧ leftOf v b (nsum nT (x.gKids.drop j))))
  | 0, j, b, h1, h2, h3, h4 => by omega
  | m + 1, j, b, h1, h2, h3, h4 => by
    unfold pspec_l03Count_L1
    by_cases hlt : j < x.gKids.length
    · rw [if_pos (by simpa using hlt)]
      by_cases hb : 0 ≤ b
      · rw [if_pos (by simpa using hb), at_lt hlt]
        simp only [Option.bind_some]
        obtain ⟨v, e, g1, g2, g3⟩ := hf _ (List.getElem_mem hlt) b hb h4
        rw [e]
        simp only [Option.bind_some]
        rw [wr_succ hlt hx]
        obtain ⟨u, e2, h5⟩ := l03Count_L1 (k := k) hx hf m (j + 1) v (by omega) (by omega) g1 (by by_cases h : 0 ≤ v <;> omega)
        refine ⟨u, e2, .inr ⟨hb, ?_⟩⟩
        rw [ns_drop hlt]
        rcases h5 with ⟨rfl, rfl⟩ | ⟨h6, h7, h8, h9⟩
        · refine ⟨by omega, ⟨fun h => by omega, fun h => by have := g2.2 (by omega); omega⟩, fun h => by omega⟩
        · have := g3 h6
          have := g2.1 h6
          refine ⟨h7, ⟨fun h => by have := h8.1 h; omega, fun h => h8.2 (by omega)⟩, fun h => by have := h9 h; omega⟩
      · rw [if_neg (by simpa using hb)]
        exact ⟨b, rfl, .inl ⟨by omega, by omega⟩⟩
    · rw [if_neg (by simpa using hlt)]
      rw [List.drop_of_length_le (by omega)]
      by_cases hb : 0 ≤ b
      · exact ⟨b, rfl, .inr ⟨hb, h3, by simp only [nsum]; omega, fun _ => by simp only [nsum]; omega⟩⟩
      · exact ⟨b, rfl, .inl ⟨by omega, by omega⟩⟩

theorem l03Count : ∀ (k : Nat) (x : GTerm), maxLen + 2 * nT x + 2 < k → x.ok → ∀ b : Int, 0 ≤ b → b ≤ 400 → ∃ v, pspec_l03Count k x b = some v ∧ leftOf v b (1 + nT x)
  | 0, x, h => by omega
  | k + 1, x, hw => by
    intro hx b h0 h1
    have hn := nT_kids x
    unfold pspec_l03Count
    rw [wr_i64 (by omega) (by omega)]
    obtain ⟨v, e, h⟩ := l03Count_L1 (k := k) (x := x) (ok_kids hx).1 (fun y hy b h0 h1 => by have := nsum_mem (n := nT) hy; exact l03Count k y (by omega) ((ok_kids hx).2 y hy) b h0 h1) k 0 (b - 1) (by omega) (by have := (ok_kids hx).1; omega) (by omega) (by omega)
    rw [show ((0 : Nat) : Int) = 0 from rfl] at e
    rw [e]
    refine ⟨v, rfl, ?_⟩
    rw [List.drop_zero, ← hn] at h
    rcases h with ⟨h2, rfl⟩ | ⟨h2, h3, h4, h5⟩
    · exact ⟨by omega, ⟨fun h => by omega, fun h => by omega⟩, fun h => by omega⟩
    · exact ⟨h3, ⟨fun h => by have := h4.1 h; omega, fun h => h4.2 (by omega)⟩, fun h => by have := h5 h; omega⟩

theorem l03Right_L1 {k : Nat} {x : GTerm} {d : Int} {f : GTerm → Int → Option Bool} (hx : x.gKids.length ≤ maxLen) (hd : wr.i64 (d + 1) = d + 1) (hf : ∀ y ∈ x.gKids, f y (d + 1) = some (gT (d + 1) y)) :
    ∀ (m j : Nat), j ≤ x.gKids.length → x.gKids.length - j < m → pspec_l03Right_L1 k f x d m (j : Int) = some (if gTs (d + 1) (x.gKids.drop j) then .done () else .ret false)
  | 0, j, h1, h2 => by omega
  | m + 1, j, h1, h2 => by
    unfold pspec_l03Right_L1
    by_cases hlt : j < x.gKids.length
    · rw [if_pos (by simpa using hlt), at_lt hlt, hd]
      simp only [Option.bind_some, hf _ (List.getElem_mem hlt)]
      rw [gTs_drop hlt]
      cases hg : gT (d + 1) x.gKids[j] with
      | false => simp
      | true =>
        rw [if_neg (by simp), wr_succ hlt hx, l03Right_L1 hx hd hf m (j + 1) (by omega) (by omega)]
        simp
    · rw [if_neg (by simpa using hlt), List.drop_of_length_le (by omega), gTs]; rfl

theorem l03Right : ∀ (k : Nat) (x : GTerm), maxLen + 2 * nT x + 2 < k → x.ok → ∀ d : Int, 0 ≤ d → d ≤ 41 → pspec_l03Right k x d = some (gT d x)
  | 0, x, h => by omega
  | k + 1, x, hw => by
    intro hx d h0 h1
    have hn := nT_kids x
    unfold pspec_l03Right
    rw [gT_eq]
    by_cases hd : d > 40
    · rw [if_pos (by simpa using hd)]; simp; omega
    · rw [if_neg (by simpa using hd), l03One (ok_name hx) (by omega)]
      simp only [Option.bind_some]
      cases h1 : one x with
      | false => simp
      | true =>
        rw [if_neg (by simp)]
        have e := l03Right_L1 (k := k) (x := x) (d := d) (ok_kids hx).1 (wr_i64 (by omega) (by omega)) (fun y hy => by have := nsum_mem (n := nT) hy; exact l03Right k y (by omega) ((ok_kids hx).2 y hy) (d + 1) (by omega) (by omega)) k 0 (by omega) (by have := (ok_kids hx).1; omega)
        rw [show ((0 : Nat) : Int) = 0 from rfl, List.drop_zero] at e
        rw [e]
        cases gTs (d + 1) x.gKids <;> simp <;> omega

/-- A term is right. -/
def tOk (x : GTerm) : Bool := decide (1 + nT x ≤ 400) && gT 1 x
theorem spec_TermOk {k : Nat} {x : GTerm} (hw : maxLen + 2 * nT x + 2 < k) (hx : x.ok) : pspec_TermOk k x = some (tOk x) := by
  unfold pspec_TermOk tOk
  obtain ⟨v, e, h1, h2, h3⟩ := l03Count k x hw hx 400 (by omega) (by omega)
  rw [e]
  simp only [Option.bind_some]
  by_cases hv : 0 ≤ v
  · rw [if_pos (by simpa using hv), l03Right k x hw hx 1 (by omega) (by omega)]
    have := h2.1 hv
    simp; omega
  · rw [if_neg (by simpa using hv)]
    have : ¬ (1 + nT x ≤ 400) := fun h => hv (h2.2 (by omega))
    simp [this]

/-- What the program counts. -/
def cnt (d : Int) (x : GTerm) : Int := if gT d x && decide (1 + nT x ≤ 400) then ((1 + nT x : Nat) : Int) else 401
theorem sized_L2 {k : Nat} {x : GTerm} {d : Int} {f : GTerm → Int → Option Int} (hx : x.gKids.length ≤ maxLen) (hd : wr.i64 (d + 1) = d + 1) (hf : ∀ y ∈ x.gKids, f y (d + 1) = some (cnt (d + 1) y)) :
    ∀ (m j : Nat) (b : Int), j ≤ x.gKids.length → x.gKids.length - j < m → 1 ≤ b → b ≤ 400 →
      pimpl_sized_L2 k f x d m b (j : Int) = some (if gTs (d + 1) (x.gKids.drop j) && decide (b + (nsum nT (x.gKids.drop j) : Int) ≤ 400) then .done (b + (nsum nT (x.gKids.drop j) : Int)) else .ret 401)
  | 0, j, b, h1, h2, h3, h4 => by omega
  | m + 1, j, b, h1, h2, h3, h4 => by
    unfold pimpl_sized_L2
    by_cases hlt : j < x.gKids.length
    · rw [if_pos (by simpa using hlt), at_lt hlt, hd]
      simp only [Option.bind_some, hf _ (List.getElem_mem hlt)]
      rw [gTs_drop hlt, ns_drop hlt, wr_succ hlt hx]
      by_cases hg : gT (d + 1) x.gKids[j] = true ∧ 1 + nT x.gKids[j] ≤ 400
      · have hc : cnt (d + 1) x.gKids[j] = ((1 + nT x.gKids[j] : Nat) : Int) := by unfold cnt; rw [if_pos (by simpa using hg)]
        rw [hc, wr_i64 (by omega) (by omega)]
        by_cases hs : b + ((1 + nT x.gKids[j] : Nat) : Int) > 400
        · rw [if_pos (by simpa using hs), if_neg]
          simp only [Bool.and_eq_true, decide_eq_true_eq, not_and]
          intro _; omega
        · rw [if_neg (by simpa using hs), sized_L2 hx hd hf m (j + 1) _ (by omega) (by omega) (by omega) (by omega), hg.1, Bool.true_and]
          have e1 : b + ((1 + nT x.gKids[j] : Nat) : Int) + (nsum nT (x.gKids.drop (j + 1)) : Int) = b + ((1 + nT x.gKids[j] + nsum nT (x.gKids.drop (j + 1)) : Nat) : Int) := by omega
          rw [e1]
      · have hc : cnt (d + 1) x.gKids[j] = 401 := by unfold cnt; rw [if_neg (by simpa using hg)]
        rw [hc, wr_i64 (by omega) (by omega), if_pos (by simp; omega), if_neg]
        simp only [Bool.and_eq_true, decide_eq_true_eq, not_and]
        intro h5
        have h6 : ¬ (1 + nT x.gKids[j] ≤ 400) := fun h => hg ⟨h5.1, h⟩
        omega
    · rw [if_neg (by simpa using hlt), List.drop_of_length_le (by omega), gTs, if_pos (by simp only [nsum]; simp; omega)]
      simp [nsum]

theorem sized : ∀ (k : Nat) (x : GTerm), maxLen + 2 * nT x + 2 < k → x.ok → ∀ d : Int, 0 ≤ d → d ≤ 41 → pimpl_sized k x d = some (cnt d x)
  | 0, x, h => by omega
  | k + 1, x, hw => by
    intro hx d h0 h1
    have hn := nT_kids x
    have hnm := nameOk (k := k) (s := x.gName) (ok_name hx) (by omega)
    have hJ : d ≤ 40 → one x = true → pimpl_sized_J1 k (pimpl_sized k) x d = some (cnt d x) := by
      intro hd h1
      unfold pimpl_sized_J1 cnt
      have e := sized_L2 (k := k) (x := x) (d := d) (ok_kids hx).1 (wr_i64 (by omega) (by omega)) (fun y hy => by have := nsum_mem (n := nT) hy; exact sized k y (by omega) ((ok_kids hx).2 y hy) (d + 1) (by omega) (by omega)) k 0 1 (by omega) (by have := (ok_kids hx).1; omega) (by omega) (by omega)
      rw [show ((0 : Nat) : Int) = 0 from rfl, List.drop_zero, ← hn] at e
      rw [e, gT_eq, h1, Bool.true_and, decide_eq_true hd, Bool.true_and]
      have e2 : decide (1 + (nT x : Int) ≤ 400) = decide (1 + nT x ≤ 400) := by rw [decide_eq_decide]; omega
      rw [e2]
      split
      · simp
      · simp
    have hbad : one x = false → (401 : Int) = cnt d x := by
      intro h1; unfold cnt; rw [gT_eq, h1]; simp
    unfold pimpl_sized
    by_cases hd : d > 40
    · rw [if_pos (by simpa using hd)]
      unfold cnt; rw [gT_eq, decide_eq_false (show ¬ d ≤ 40 by omega)]; simp
    have hJ' := hJ (by omega)
    rw [if_neg (by simpa using hd)]
    simp only [hnm, within, Option.bind_some]
    generalize pimpl_sized_J1 k (pimpl_sized k) x d = J at hJ' ⊢
    generalize cnt d x = C at hJ' hbad ⊢
    have hlen : ((x.gKids.length : Int) > 0) ↔ ¬ ((x.gKids.length : Int) = 0) := by omega
    unfold one at hJ' hbad
    by_cases c1 : x.gKind = 1
    · rw [if_pos (by simpa using c1)]
      rw [if_pos c1] at hJ' hbad
      cases h2 : inR x.gNum 0 99999 <;> cases h3 : sEq x.gName (bs []) <;> by_cases h4 : (x.gKids.length : Int) = 0 <;> simp_all
    rw [if_neg (by simpa using c1)]
    rw [if_neg c1] at hJ' hbad
    by_cases c2 : x.gKind = 2
    · rw [if_pos (by simpa using c2)]
      rw [if_pos c2] at hJ' hbad
      cases h2 : decide (nmOk x.gName) <;> by_cases h3 : x.gNum = 0 <;> by_cases h4 : (x.gKids.length : Int) = 0 <;> simp_all
    rw [if_neg (by simpa using c2)]
    rw [if_neg c2] at hJ' hbad
    by_cases c3 : x.gKind = 3
    · rw [if_pos (by simpa using c3)]
      rw [if_pos c3] at hJ' hbad
      cases h2 : inR x.gNum (-999999999) 999999999 <;> cases h3 : sEq x.gName (bs []) <;> by_cases h4 : (x.gKids.length : Int) = 0 <;> simp_all
    rw [if_neg (by simpa using c3)]
    rw [if_neg c3] at hJ' hbad
    by_cases c4 : x.gKind = 4
    · rw [if_pos (by simpa using c4)]
      rw [if_pos c4] at hJ' hbad
      cases h2 : decide (nmOk x.gName) <;> by_cases h3 : x.gNum = 0 <;> cases h4 : inR (x.gKids.length : Int) 1 5 <;> simp_all
    · rw [if_neg (by simpa using c4)]
      rw [if_neg c4] at hbad
      rw [hbad rfl]

theorem impl_TermOk {k : Nat} {x : GTerm} (hw : maxLen + 2 * nT x + 2 < k) (hx : x.ok) : pimpl_TermOk k x = some (tOk x) := by
  unfold pimpl_TermOk tOk
  rw [sized k x hw hx 1 (by omega) (by omega)]
  simp only [Option.bind_some]
  unfold cnt
  cases gT 1 x <;> by_cases h : 1 + nT x ≤ 400 <;> simp [h] <;> omega
theorem nflat {α : Type} : ∀ l : List α, nsum (fun _ => 0) l = l.length
  | [] => rfl
  | x :: l => by simp only [nsum, nflat l, List.length_cons]; omega
theorem nIns_len (l : List GIns) : nsum nIns l = l.length := by
  have : nIns = fun _ => 0 := by funext x; rfl
  rw [this]; exact nflat l
theorem eta (x : GTerm) : GTerm.mk x.gKind x.gName x.gNum x.gKids = x := by cases x; rfl
/-- A word is written as it should be. -/
def fm (x : GIns) : Bool :=
  if x.gOp = 1 then (x.gNum == 0) && (x.gMany == 0) else if x.gOp = 5 then x.gNum == 0 else sEq x.gName (bs []) && (x.gMany == 0)
theorem l12Form (k : Nat) (x : GIns) : pspec_l12Form k x = some (fm x) := by
  unfold pspec_l12Form fm
  by_cases h1 : x.gOp = 1
  · rw [if_pos (by simpa using h1), if_pos h1]
    by_cases h : x.gNum = 0 <;> simp [h]
  rw [if_neg (by simpa using h1), if_neg h1]
  by_cases h5 : x.gOp = 5
  · rw [if_pos (by simpa using h5), if_pos h5]
  rw [if_neg (by simpa using h5), if_neg h5]
  cases sEq x.gName (bs []) <;> simp

/-- What reading a term gives, one way and the other. -/
def RdW (l : List GIns) (d : Int) (a : Nat) (t : GTerm) (nx : Int) (ok : Bool) (t' : GTerm) (nx' : Int) : Prop :=
  t'.ok ∧ (nx' = -1 ∨ ∃ n : Nat, nx' = (n : Int) ∧ a < n ∧ n ≤ l.length ∧ a + 1 + nT t' ≤ n) ∧
  (ok = true → nx = nx' ∧ t = t' ∧ 0 ≤ nx' ∧ ∀ i (h : i < l.length), a ≤ i → (i : Int) < nx' → fm l[i] = true) ∧
  (ok = false → nx' = -1 ∨ gT d t' = false ∨ ∃ i, ∃ h : i < l.length, a ≤ i ∧ (i : Int) < nx' ∧ fm l[i] = false)

/-- Where the reading of the parts ends. -/
def EndS (g : GIns) (l : List GIns) (nm : ByteArray) (a j : Nat) (acc : List GTerm) (o : Out (GTerm × Int) (Int × GTerm)) : Prop :=
  match o with
  | .ret r => r = (.mk 0 (bs []) 0 [], -1)
  | .done r => ∃ (n : Nat) (ks : List GTerm), r = ((n : Int), .mk 4 nm 0 (acc ++ ks)) ∧ a ≤ n ∧ n ≤ l.length ∧ a + nsum nT ks ≤ n ∧ (∀ y ∈ ks, y.ok) ∧ j + ks.length ≤ 6 ∧
      (g.gMany ≤ ((j + ks.length : Nat) : Int) ∨ j + ks.length = 6) ∧ (ks = [] ∨ ((j + ks.length : Nat) : Int) ≤ g.gMany)

theorem EndS.lift {g : GIns} {l : List GIns} {nm : ByteArray} {a n j : Nat} {acc : List GTerm} {t : GTerm} {o : Out (GTerm × Int) (Int × GTerm)} (h : EndS g l nm n (j + 1) (acc ++ [t]) o) (h1 : a < n) (h2 : a + 1 + nT t ≤ n) (h3 : t.ok) (h4 : (j : Int) < g.gMany) :
    EndS g l nm a j acc o := by
  cases o with
  | ret r => exact h
  | done r =>
    obtain ⟨q, ks, e, b1, b2, b3, b4, b5, b6, b7⟩ := h
    refine ⟨q, t :: ks, by rw [e]; simp, by omega, b2, by simp only [nsum]; omega, fun y hy => ?_, by simp only [List.length_cons]; omega, ?_, .inr ?_⟩
    · rcases List.mem_cons.1 hy with rfl | hy
      · exact h3
      · exact b4 y hy
    · rcases b6 with b6 | b6
      · left; simp only [List.length_cons]; omega
      · right; simp only [List.length_cons]; omega
    · rcases b7 with rfl | b7
      · simp only [List.length_cons, List.length_nil]; omega
      · simp only [List.length_cons]; omega

theorem mk_k {a : Int} {b : ByteArray} {c : Int} {l : List GTerm} : (GTerm.mk a b c l).gKind = a := rfl
theorem mk_n {a : Int} {b : ByteArray} {c : Int} {l : List GTerm} : (GTerm.mk a b c l).gName = b := rfl
theorem mk_u {a : Int} {b : ByteArray} {c : Int} {l : List GTerm} : (GTerm.mk a b c l).gNum = c := rfl
theorem mk_l {a : Int} {b : ByteArray} {c : Int} {l : List GTerm} : (GTerm.mk a b c l).gKids = l := rfl

theorem wr6 {j : Nat} (h : j < 6) : wr.i64 ((j : Int) + 1) = ((j + 1 : Nat) : Int) := by rw [wr_i64 (by omega) (by omega)]; omega

theorem loopS {k : Nat} {g : GIns} {l : List GIns} {d : Int} {F : List GIns → Int → Int → Option (GTerm × Int)} (nm : ByteArray) (hw : wr.i64 (d + 1) = d + 1)
    (hF : ∀ b : Nat, b ≤ l.length → ∃ t' nx', F l (b : Int) (d + 1) = some (t', nx') ∧ t'.ok ∧ (nx' = -1 ∨ ∃ n : Nat, nx' = (n : Int) ∧ b < n ∧ n ≤ l.length ∧ b + 1 + nT t' ≤ n)) :
    ∀ (m j a : Nat) (acc : List GTerm), 6 - j < m → j ≤ 6 → a ≤ l.length → acc.length ≤ j →
      ∃ o, pspec_l12Term_L2 k F g l d m (a : Int) (j : Int) (.mk 4 nm 0 acc) = some o ∧ EndS g l nm a j acc o
  | 0, j, a, acc, h1, h2, h3, h4 => by omega
  | m + 1, j, a, acc, h1, h2, h3, h4 => by
    unfold pspec_l12Term_L2
    by_cases c1 : (j : Int) < g.gMany
    · rw [if_pos (decide_eq_true c1)]
      by_cases c2 : j < 6
      · rw [if_pos (decide_eq_true (by omega : (j : Int) < 6)), hw]
        obtain ⟨t', nx', e, e1, e2⟩ := hF a h3
        rw [e]
        simp only [Option.bind_some]
        rcases e2 with rfl | ⟨n, rfl, e2, e3, e4⟩
        · rw [if_pos (show decide ((-1 : Int) < 0) = true from rfl)]
          exact ⟨_, rfl, rfl⟩
        · rw [if_neg (by simp), mk_l, if_pos (by simp <;> omega), wr6 c2, eta]
          obtain ⟨o, g1, g2⟩ := loopS nm hw hF m (j + 1) n (acc ++ [t']) (by omega) (by omega) e3 (by simp <;> omega)
          exact ⟨o, g1, g2.lift e2 e4 e1 c1⟩
      · rw [if_neg (by simp <;> omega)]
        exact ⟨_, rfl, a, [], by simp, Nat.le_refl _, h3, by simp [nsum], by simp, by simpa using h2, .inr (by simp <;> omega), .inl rfl⟩
    · rw [if_neg (by simpa using c1)]
      exact ⟨_, rfl, a, [], by simp, Nat.le_refl _, h3, by simp [nsum], by simp, by simpa using h2, .inl (by simp <;> omega), .inl rfl⟩

theorem loopB {k : Nat} {g : GIns} {l : List GIns} {d : Int} {F : List GIns → Int → Int → Option (GTerm × Int)} {I : List GIns → Int → Int → Option (GTerm × Int × Bool)} (nm : ByteArray) (hw : wr.i64 (d + 1) = d + 1) (hg : g.gMany ≤ 5)
    (hF : ∀ b : Nat, b ≤ l.length → ∃ t nx ok t' nx', I l (b : Int) (d + 1) = some (t, nx, ok) ∧ F l (b : Int) (d + 1) = some (t', nx') ∧ RdW l (d + 1) b t nx ok t' nx') :
    ∀ (m j a : Nat) (acc : List GTerm), 6 - j < m → j ≤ 6 → a ≤ l.length → acc.length ≤ j →
      ∃ o o', pimpl_termFrom_d_L4 k I g l d m (a : Int) (j : Int) (.mk 4 nm 0 acc) = some o ∧ pspec_l12Term_L2 k F g l d m (a : Int) (j : Int) (.mk 4 nm 0 acc) = some o' ∧ EndS g l nm a j acc o' ∧
        (match o, o' with
          | .ret r, .ret _ => r.2.2 = false
          | .ret r, .done r' => r.2.2 = false ∧ ((∃ y ∈ r'.2.gKids, gT (d + 1) y = false) ∨ ∃ i, ∃ h : i < l.length, a ≤ i ∧ (i : Int) < r'.1 ∧ fm l[i] = false)
          | .done r, .done r' => r = r' ∧ ∀ i (h : i < l.length), a ≤ i → (i : Int) < r.1 → fm l[i] = true
          | .done _, .ret _ => False)
  | 0, j, a, acc, h1, h2, h3, h4 => by omega
  | m + 1, j, a, acc, h1, h2, h3, h4 => by
    have hS : ∀ b : Nat, b ≤ l.length → ∃ t' nx', F l (b : Int) (d + 1) = some (t', nx') ∧ t'.ok ∧ (nx' = -1 ∨ ∃ n : Nat, nx' = (n : Int) ∧ b < n ∧ n ≤ l.length ∧ b + 1 + nT t' ≤ n) := by
      intro b hb
      obtain ⟨t, nx, ok, t', nx', _, e2, e3, e4, _⟩ := hF b hb
      exact ⟨t', nx', e2, e3, e4⟩
    by_cases c1 : (j : Int) < g.gMany
    · have c2 : j < 6 := by omega
      obtain ⟨t, nx, ok, t', nx', e1, e2, e3, e4, e5, e6⟩ := hF a h3
      have pS : pspec_l12Term_L2 k F g l d (m + 1) (a : Int) (j : Int) (.mk 4 nm 0 acc) = (if (decide (nx' < 0)) = true then some (.ret (GTerm.mk 0 (bs []) 0 [], -1)) else pspec_l12Term_L2 k F g l d m nx' ((j + 1 : Nat) : Int) (.mk 4 nm 0 (acc ++ [t']))) := by
        rw [pspec_l12Term_L2, if_pos (decide_eq_true c1), if_pos (decide_eq_true (by omega : (j : Int) < 6)), hw, e2]
        simp only [Option.bind_some, mk_l, mk_k, mk_n, mk_u, eta]
        rw [if_pos (show acc.length + [t'].length ≤ 1073741824 by simp <;> omega), wr6 c2]
      have pI : pimpl_termFrom_d_L4 k I g l d (m + 1) (a : Int) (j : Int) (.mk 4 nm 0 acc) = (if (!ok) = true then some (.ret (GTerm.mk 0 (bs []) 0 [], (a : Int), false)) else pimpl_termFrom_d_L4 k I g l d m nx ((j + 1 : Nat) : Int) (.mk 4 nm 0 (acc ++ [t]))) := by
        rw [pimpl_termFrom_d_L4, if_pos (decide_eq_true c1), hw, e1]
        simp only [Option.bind_some, mk_l, mk_k, mk_n, mk_u, eta]
        rw [if_pos (show acc.length + [t].length ≤ 1073741824 by simp <;> omega), wr6 c2]
      rw [pS, pI]
      cases ok with
      | false =>
        rw [if_pos (show (!false) = true from rfl)]
        rcases e4 with rfl | ⟨n, rfl, b1, b2, b3⟩
        · rw [if_pos (show decide ((-1 : Int) < 0) = true from rfl)]
          exact ⟨_, _, rfl, rfl, rfl, rfl⟩
        · rw [if_neg (by simp)]
          obtain ⟨o', g1, g2⟩ := loopS (k := k) (g := g) (d := d) nm hw hS m (j + 1) n (acc ++ [t']) (by omega) (by omega) b2 (by simp <;> omega)
          refine ⟨_, o', rfl, g1, g2.lift b1 b3 e3 c1, ?_⟩
          cases o' with
          | ret r => rfl
          | done r =>
            obtain ⟨q, ks, rfl, q1, q2, q3, q4, q5, q6, q7⟩ := g2
            refine ⟨rfl, ?_⟩
            rcases e6 rfl with h | h | ⟨i, hi, i1, i2, i3⟩
            · omega
            · left; exact ⟨t', by simp [mk_l], h⟩
            · right; exact ⟨i, hi, i1, by simp only; omega, i3⟩
      | true =>
        obtain ⟨rfl, rfl, f1, f2⟩ := e5 rfl
        rcases e4 with rfl | ⟨n, rfl, b1, b2, b3⟩
        · omega
        rw [if_neg (by simp), if_neg (by simp)]
        obtain ⟨o, o', g1, g2, g3, g4⟩ := loopB (k := k) nm hw hg hF m (j + 1) n (acc ++ [t]) (by omega) (by omega) b2 (by simp <;> omega)
        refine ⟨o, o', g1, g2, g3.lift b1 b3 e3 c1, ?_⟩
        cases o with
        | ret r =>
          cases o' with
          | ret r' => exact g4
          | done r' =>
            refine ⟨g4.1, ?_⟩
            rcases g4.2 with h | ⟨i, hi, i1, i2, i3⟩
            · exact .inl h
            · exact .inr ⟨i, hi, by omega, i2, i3⟩
        | done r =>
          cases o' with
          | ret r' => exact g4
          | done r' =>
            refine ⟨g4.1, fun i hi i1 i2 => ?_⟩
            by_cases hin : n ≤ i
            · exact g4.2 i hi hin i2
            · exact f2 i hi i1 (by omega)
    · unfold pspec_l12Term_L2 pimpl_termFrom_d_L4
      rw [if_neg (by simpa using c1), if_neg (by simpa using c1)]
      exact ⟨_, _, rfl, rfl, ⟨a, [], by simp, Nat.le_refl _, h3, by simp [nsum], by simp, by simpa using h2, .inl (by simp <;> omega), .inl rfl⟩, rfl, fun i hi i1 i2 => by simp only at i2; omega⟩

theorem nT_leaf (a : Int) (b : ByteArray) (c : Int) : nT (GTerm.mk a b c []) = 0 := by rw [nT, nTs]
theorem nT_mk (a : Int) (b : ByteArray) (c : Int) (l : List GTerm) : nT (GTerm.mk a b c l) = nsum nT l := by rw [nT, nTs_eq]
theorem ok0 : (GTerm.mk 0 (bs []) 0 []).ok := .mk _ _ _ _ (by unfold okI; decide) (by unfold okFs; decide) (by unfold okI; decide) (by decide) (fun y hy => by cases hy)

theorem RdWGood {l : List GIns} {d : Int} {a : Nat} {t : GTerm} (ha : a < l.length) (ht : t.ok) (hn : nT t = 0) (hf : fm l[a] = true) : RdW l d a t ((a + 1 : Nat) : Int) true t ((a + 1 : Nat) : Int) :=
  ⟨ht, .inr ⟨a + 1, rfl, by omega, by omega, by omega⟩, fun _ => ⟨rfl, rfl, by omega, fun i hi h1 h2 => by
    have : i = a := by omega
    subst this; exact hf⟩, fun h => by cases h⟩
theorem RdWBad {l : List GIns} {d : Int} {a : Nat} {t t' : GTerm} {nx : Int} (ha : a < l.length) (ht : t'.ok) (hn : nT t' = 0) (hf : fm l[a] = false) : RdW l d a t nx false t' ((a + 1 : Nat) : Int) :=
  ⟨ht, .inr ⟨a + 1, rfl, by omega, by omega, by omega⟩, fun h => (by cases h), fun _ => .inr (.inr ⟨a, ha, by omega, by omega, hf⟩)⟩
theorem RdWNo {l : List GIns} {d : Int} {a : Nat} {t : GTerm} {nx : Int} : RdW l d a t nx false (GTerm.mk 0 (bs []) 0 []) (-1) :=
  ⟨ok0, .inl rfl, fun h => (by cases h), fun _ => .inl rfl⟩
theorem gTs_mem {d : Int} : ∀ {l : List GTerm} {y : GTerm}, y ∈ l → gT d y = false → gTs d l = false
  | x :: l, y, h, hy => by
    rw [gTs]
    rcases List.mem_cons.1 h with rfl | h
    · rw [hy]; rfl
    · rw [gTs_mem h hy]; simp

theorem read {l : List GIns} (hl : l.length ≤ 1048576) (hok : ∀ x ∈ l, GIns.ok x) : ∀ (k a : Nat) (d : Int), 1 ≤ d → d ≤ 41 → 60 < (k : Int) + d → a ≤ l.length →
    ∃ t nx ok t' nx', pimpl_termFrom_d k l (a : Int) d = some (t, nx, ok) ∧ pspec_l12Term k l (a : Int) d = some (t', nx') ∧ RdW l d a t nx ok t' nx'
  | 0, a, d, h1, h2, h3, h4 => by omega
  | k + 1, a, d, h1, h2, h3, h4 => by
    have hM := maxLen_eq
    have hwl : wr.i64 ((l.length : Int) - 1) = (l.length : Int) - 1 := wr_i64 (by omega) (by omega)
    have hwd : wr.i64 (d + 1) = d + 1 := wr_i64 (by omega) (by omega)
    by_cases ha : a < l.length
    · have hA : inR (a : Int) 0 ((l.length : Int) - 1) = true := inR_t ⟨by omega, by omega⟩
      have hA' : ¬ decide ((a : Int) ≥ (l.length : Int)) = true := by rw [decide_eq_false (by omega)]; exact Bool.false_ne_true
      by_cases hd : d > 40
      · have hd' : decide (d > 40) = true := decide_eq_true hd
        have pI : pimpl_termFrom_d (k + 1) l (a : Int) d = some (GTerm.mk 0 (bs []) 0 [], (a : Int), false) := by
          rw [pimpl_termFrom_d, if_neg hA', hd', pimpl_termFrom_d_J1, if_pos rfl]
        have pS : pspec_l12Term (k + 1) l (a : Int) d = some (GTerm.mk 0 (bs []) 0 [], -1) := by
          rw [pspec_l12Term, l01In, hwl, hA]
          simp only [Option.bind_some, Bool.not_true, Bool.false_eq_true, if_false]
          rw [if_pos hd']
        exact ⟨_, _, _, _, _, pI, pS, RdWNo⟩
      have hd' : decide (d > 40) = false := decide_eq_false hd
      have hwa : wr.i64 ((a : Int) + 1) = ((a + 1 : Nat) : Int) := wr_succ ha (by omega)
      have hg := hok _ (List.getElem_mem ha)
      generalize hgg : l[a] = g at hg
      have hat : at' l (a : Int) = some g := by rw [at_lt ha, hgg]
      have pI : pimpl_termFrom_d (k + 1) l (a : Int) d = (if ((g.gOp == 1) && ((g.gNum == 0) && (g.gMany == 0))) = true then some (GTerm.mk 2 g.gName 0 [], ((a + 1 : Nat) : Int), true)
          else if ((g.gOp == 2) && (sEq g.gName (bs []) && (g.gMany == 0))) = true then some (GTerm.mk 3 (bs []) g.gNum [], ((a + 1 : Nat) : Int), true)
          else pimpl_termFrom_d_J2 k (pimpl_termFrom_d k) g (a : Int) l d (((g.gOp == 3) || (g.gOp == 4)) && (sEq g.gName (bs []) && (g.gMany == 0)))) := by
        rw [pimpl_termFrom_d, if_neg hA', hd', pimpl_termFrom_d_J1, if_neg Bool.false_ne_true, hat]
        simp only [Option.bind_some, pimpl_atom_d, pimpl_number_d, sEq_refl, beq_self_eq_true, Bool.true_and, Bool.and_true, hwa]
        split
        · rfl
        · split
          · rfl
          · split
            · rename_i c
              congr 1
              simp only [Bool.and_eq_true] at c
              rw [c.1, c.2.1, c.2.2]; rfl
            · rename_i c
              congr 1
              cases h3 : (g.gOp == 3) with
              | false => rfl
              | true =>
                have h4 : (g.gOp == 4) = false := by
                  have : g.gOp = 3 := by simpa using h3
                  rw [this]; rfl
                rw [h3] at c
                rw [h4]
                cases hx : (sEq g.gName (bs []) && (g.gMany == 0)) with
                | false => rfl
                | true => rw [hx] at c; exact absurd rfl c
      have pS : pspec_l12Term (k + 1) l (a : Int) d = (if (g.gOp == 1) = true then some (GTerm.mk 2 g.gName 0 [], ((a + 1 : Nat) : Int)) else if (g.gOp == 2) = true then some (GTerm.mk 3 (bs []) g.gNum [], ((a + 1 : Nat) : Int))
          else pspec_l12Term_J1 k (pspec_l12Term k) g (a : Int) l d ((g.gOp == 3) || (g.gOp == 4))) := by
        rw [pspec_l12Term, l01In, hwl, hA]
        simp only [Option.bind_some, Bool.not_true, Bool.false_eq_true, if_false, hd', hat, pspec_l03Atom, pspec_l03Num, hwa]
        split
        · rfl
        · split
          · rfl
          · split
            · rename_i c
              rw [c]; rfl
            · rename_i c
              rw [Bool.eq_false_iff.2 c]; rfl
      have hnm := hg.2.1
      have okL : ∀ (q : Int) (nm : ByteArray) (u : Int), okI .i64 q → okFs nm → okI .i64 u → (GTerm.mk q nm u []).ok := fun q nm u a1 a2 a3 => .mk _ _ _ _ a1 a2 a3 (by simp) (fun y hy => by cases hy)
      have kq : ∀ q : Int, 0 ≤ q → q ≤ 5 → okI .i64 q := fun q h0 h1 => by
        have e1 : IntKind.i64.min = -9223372036854775808 := rfl
        have e2 : IntKind.i64.max = 9223372036854775807 := rfl
        unfold okI; omega
      have nb : okFs (bs []) := by unfold okFs; decide
      have hfm : fm l[a] = fm g := by rw [hgg]
      -- what it is when no word fits
      have noI : ((g.gOp == 5) && (g.gNum == 0)) = false → pimpl_termFrom_d_J2 k (pimpl_termFrom_d k) g (a : Int) l d false = some (GTerm.mk 0 (bs []) 0 [], ((a + 1 : Nat) : Int), false) := by
        intro h5
        rw [pimpl_termFrom_d_J2, if_neg Bool.false_ne_true, sEq_refl]
        simp only [beq_self_eq_true, Bool.true_and, Bool.and_true, h5, Bool.not_false, if_true]
        rw [pimpl_termFrom_d_J3, if_pos rfl, hwa]
      by_cases o1 : g.gOp = 1
      · have b1 : (g.gOp == 1) = true := by simpa using o1
        have b2 : (g.gOp == 2) = false := by rw [o1]; rfl
        have b3 : (g.gOp == 3) = false := by rw [o1]; rfl
        have b4 : (g.gOp == 4) = false := by rw [o1]; rfl
        have b5 : (g.gOp == 5) = false := by rw [o1]; rfl
        rw [b1, if_pos rfl] at pS
        rw [b1, b2, b3, b4] at pI
        simp only [Bool.true_and, Bool.false_and, Bool.or_self, Bool.false_eq_true, if_false] at pI
        have ef : fm g = ((g.gNum == 0) && (g.gMany == 0)) := by unfold fm; rw [if_pos o1]
        cases hf : fm g with
        | true =>
          rw [← ef, hf, if_pos rfl] at pI
          exact ⟨_, _, _, _, _, pI, pS, RdWGood ha (okL _ _ _ (kq 2 (by decide) (by decide)) hnm (kq 0 (by decide) (by decide))) (nT_leaf _ _ _) (hfm.trans hf)⟩
        | false =>
          rw [← ef, hf, if_neg Bool.false_ne_true, noI (by rw [b5]; rfl)] at pI
          exact ⟨_, _, _, _, _, pI, pS, RdWBad ha (okL _ _ _ (kq 2 (by decide) (by decide)) hnm (kq 0 (by decide) (by decide))) (nT_leaf _ _ _) (hfm.trans hf)⟩
      have b1 : (g.gOp == 1) = false := by simpa using o1
      rw [b1] at pI pS
      simp only [Bool.false_and, Bool.false_eq_true, if_false] at pI pS
      by_cases o2 : g.gOp = 2
      · have b2 : (g.gOp == 2) = true := by simpa using o2
        have b3 : (g.gOp == 3) = false := by rw [o2]; rfl
        have b4 : (g.gOp == 4) = false := by rw [o2]; rfl
        have b5 : (g.gOp == 5) = false := by rw [o2]; rfl
        rw [b2, if_pos rfl] at pS
        rw [b2, b3, b4] at pI
        simp only [Bool.true_and, Bool.false_and, Bool.or_self] at pI
        have ef : fm g = (sEq g.gName (bs []) && (g.gMany == 0)) := by unfold fm; rw [if_neg o1, if_neg (by rw [o2]; decide)]
        have okt := okL 3 (bs []) g.gNum (kq 3 (by decide) (by decide)) nb hg.2.2.1
        cases hf : fm g with
        | true =>
          rw [← ef, hf, if_pos rfl] at pI
          exact ⟨_, _, _, _, _, pI, pS, RdWGood ha okt (nT_leaf _ _ _) (hfm.trans hf)⟩
        | false =>
          rw [← ef, hf, if_neg Bool.false_ne_true, noI (by rw [b5]; rfl)] at pI
          exact ⟨_, _, _, _, _, pI, pS, RdWBad ha okt (nT_leaf _ _ _) (hfm.trans hf)⟩
      have b2 : (g.gOp == 2) = false := by simpa using o2
      rw [b2] at pI pS
      simp only [Bool.false_and, Bool.false_eq_true, if_false] at pI pS
      cases o3 : ((g.gOp == 3) || (g.gOp == 4)) with
      | true =>
        have o3' : g.gOp = 3 ∨ g.gOp = 4 := by simpa using o3
        have b5 : (g.gOp == 5) = false := by rcases o3' with h | h <;> rw [h] <;> rfl
        rw [o3] at pI pS
        rw [pspec_l12Term_J1, if_pos rfl, pspec_l03Var] at pS
        simp only [Option.bind_some, hwa] at pS
        simp only [Bool.true_and] at pI
        have ef : fm g = (sEq g.gName (bs []) && (g.gMany == 0)) := by unfold fm; rw [if_neg o1, if_neg (by rcases o3' with h | h <;> rw [h] <;> decide)]
        have okt := okL 1 (bs []) g.gNum (kq 1 (by decide) (by decide)) nb hg.2.2.1
        cases hf : fm g with
        | true =>
          rw [← ef, hf, pimpl_termFrom_d_J2, if_pos rfl, pimpl_variable_d] at pI
          simp only [Option.bind_some, hwa] at pI
          exact ⟨_, _, _, _, _, pI, pS, RdWGood ha okt (nT_leaf _ _ _) (hfm.trans hf)⟩
        | false =>
          rw [← ef, hf, noI (by rw [b5]; rfl)] at pI
          exact ⟨_, _, _, _, _, pI, pS, RdWBad ha okt (nT_leaf _ _ _) (hfm.trans hf)⟩
      | false =>
        rw [o3] at pI pS
        simp only [Bool.false_and] at pI
        rw [pspec_l12Term_J1, if_neg Bool.false_ne_true] at pS
        by_cases o5 : g.gOp = 5
        · have b5 : (g.gOp == 5) = true := by simpa using o5
          rw [b5, if_pos rfl, hwa] at pS
          have ef : fm g = (g.gNum == 0) := by unfold fm; rw [if_neg o1, if_pos o5]
          have hF := fun b hb => read hl hok k b (d + 1) (by omega) (by omega) (by omega) hb
          have hSp : ∀ b : Nat, b ≤ l.length → ∃ t' nx', pspec_l12Term k l (b : Int) (d + 1) = some (t', nx') ∧ t'.ok ∧ (nx' = -1 ∨ ∃ n : Nat, nx' = (n : Int) ∧ b < n ∧ n ≤ l.length ∧ b + 1 + nT t' ≤ n) := by
            intro b hb
            obtain ⟨t, nx, ok, t', nx', _, e2, e3, e4, _⟩ := hF b hb
            exact ⟨t', nx', e2, e3, e4⟩
          -- what the parts make
          have mkR : ∀ (n : Nat) (ks : List GTerm), a + 1 ≤ n → n ≤ l.length → a + 1 + nsum nT ks ≤ n → (∀ y ∈ ks, y.ok) → ks.length ≤ 6 → (GTerm.mk 4 g.gName 0 ks).ok ∧ a + 1 + nT (GTerm.mk 4 g.gName 0 ks) ≤ n := by
            intro n ks q1 q2 q3 q4 q5
            exact ⟨.mk _ _ _ _ (kq 4 (by decide) (by decide)) hnm (kq 0 (by decide) (by decide)) (by omega) q4, by rw [nT_mk]; exact q3⟩
          have failS : ∀ t nx, pimpl_termFrom_d (k + 1) l (a : Int) d = some (t, nx, false) → (fm g = false ∨ ¬ (1 ≤ g.gMany ∧ g.gMany ≤ 5)) →
              ∃ t nx ok t' nx', pimpl_termFrom_d (k + 1) l (a : Int) d = some (t, nx, ok) ∧ pspec_l12Term (k + 1) l (a : Int) d = some (t', nx') ∧ RdW l d a t nx ok t' nx' := by
            intro t nx hI hbad
            obtain ⟨o, g1, g2⟩ := loopS (k := k) (g := g) (d := d) g.gName hwd hSp k 0 (a + 1) [] (by omega) (by omega) (by omega) (by simp)
            rw [show ((0 : Nat) : Int) = 0 from rfl] at g1
            rw [g1] at pS
            simp only [Option.bind_some] at pS
            cases o with
            | ret r =>
              have e : r = (.mk 0 (bs []) 0 [], -1) := g2
              subst e
              exact ⟨_, _, _, _, _, hI, pS, RdWNo⟩
            | done r =>
              obtain ⟨n, ks, rfl, q1, q2, q3, q4, q5, q6, q7⟩ := g2
              simp only [List.nil_append, Nat.zero_add] at q5 q6 q7 pS
              obtain ⟨r1, r2⟩ := mkR n ks q1 q2 q3 q4 q5
              refine ⟨_, _, _, _, _, hI, pS, r1, .inr ⟨n, rfl, by omega, q2, r2⟩, fun h => (by cases h), fun _ => .inr ?_⟩
              rcases hbad with hb | hb
              · exact .inr ⟨a, ha, Nat.le_refl _, by omega, hfm.trans hb⟩
              · left
                have : inR (ks.length : Int) 1 5 = false := inR_f (by
                  rcases q7 with rfl | q7
                  · simp only [List.length_nil]; omega
                  · omega)
                rw [gT_eq]
                have e1 : one (GTerm.mk 4 g.gName 0 ks) = false := by
                  unfold one
                  rw [mk_k, if_neg (by decide), if_neg (by decide), if_neg (by decide), if_pos rfl, mk_l, this]
                  simp
                rw [e1]; simp
          cases hf : fm g with
          | false =>
            rw [noI (by rw [← ef, hf]; simp)] at pI
            exact failS _ _ pI (.inl hf)
          | true =>
            rw [ef] at hf
            rw [pimpl_termFrom_d_J2, if_neg Bool.false_ne_true, sEq_refl] at pI
            simp only [beq_self_eq_true, Bool.true_and, Bool.and_true, b5, hf, Bool.not_true, Bool.false_eq_true, if_false, within, Option.bind_some] at pI
            by_cases hmany : 1 ≤ g.gMany ∧ g.gMany ≤ 5
            · rw [inR_t hmany, Bool.not_true, pimpl_termFrom_d_J3, if_neg Bool.false_ne_true, pimpl_structure_d, hwa] at pI
              simp only [Option.bind_some] at pI
              obtain ⟨o, o', g1, g2, g3, g4⟩ := loopB (k := k) (g := g) (d := d) g.gName hwd hmany.2 hF k 0 (a + 1) [] (by omega) (by omega) (by omega) (by simp)
              rw [show ((0 : Nat) : Int) = 0 from rfl] at g1 g2
              rw [g1] at pI
              rw [g2] at pS
              simp only [Option.bind_some] at pI pS
              cases o' with
              | ret r' =>
                have e : r' = (.mk 0 (bs []) 0 [], -1) := g3
                subst e
                cases o with
                | ret r =>
                  obtain ⟨t, nx, ok⟩ := r
                  have e : ok = false := g4
                  subst e
                  exact ⟨_, _, _, _, _, pI, pS, RdWNo⟩
                | done r => exact g4.elim
              | done r' =>
                obtain ⟨n, ks, rfl, q1, q2, q3, q4, q5, q6, q7⟩ := g3
                simp only [List.nil_append, Nat.zero_add] at q5 q6 q7 pS g4
                obtain ⟨r1, r2⟩ := mkR n ks q1 q2 q3 q4 q5
                have base : ((n : Int) = -1 ∨ ∃ n' : Nat, (n : Int) = (n' : Int) ∧ a < n' ∧ n' ≤ l.length ∧ a + 1 + nT (GTerm.mk 4 g.gName 0 ks) ≤ n') := .inr ⟨n, rfl, by omega, q2, r2⟩
                cases o with
                | ret r =>
                  obtain ⟨t, nx, ok⟩ := r
                  obtain ⟨e, g4⟩ := g4
                  have e : ok = false := e
                  subst e
                  refine ⟨_, _, _, _, _, pI, pS, r1, base, fun h => (by cases h), fun _ => .inr ?_⟩
                  rcases g4 with ⟨y, y1, y2⟩ | ⟨i, hi, i1, i2, i3⟩
                  · left
                    rw [gT_eq, mk_l, gTs_mem (show y ∈ ks from y1) y2]; simp
                  · exact .inr ⟨i, hi, by omega, i2, i3⟩
                | done r =>
                  obtain ⟨rfl, g5⟩ := g4
                  refine ⟨_, _, _, _, _, pI, pS, r1, base, fun _ => ⟨rfl, rfl, by omega, fun i hi i1 i2 => ?_⟩, fun h => by cases h⟩
                  by_cases hia : i = a
                  · subst hia; rw [hfm, ef]; exact hf
                  · exact g5 i hi (by omega) i2
            · rw [inR_f hmany, Bool.not_false, pimpl_termFrom_d_J3, if_pos rfl] at pI
              exact failS _ _ pI (.inr hmany)
        · have b5 : (g.gOp == 5) = false := by simpa using o5
          rw [b5, if_neg Bool.false_ne_true] at pS
          rw [noI (by rw [b5]; rfl)] at pI
          exact ⟨_, _, _, _, _, pI, pS, RdWNo⟩
    · have hA : inR (a : Int) 0 ((l.length : Int) - 1) = false := inR_f (by omega)
      have hA' : decide ((a : Int) ≥ (l.length : Int)) = true := decide_eq_true (by omega)
      have pI : pimpl_termFrom_d (k + 1) l (a : Int) d = some (GTerm.mk 0 (bs []) 0 [], (a : Int), false) := by
        rw [pimpl_termFrom_d, if_pos hA', pimpl_termFrom_d_J1, if_pos rfl]
      have pS : pspec_l12Term (k + 1) l (a : Int) d = some (GTerm.mk 0 (bs []) 0 [], -1) := by
        rw [pspec_l12Term, l01In, hwl, hA]
        simp only [Option.bind_some, Bool.not_false, if_true]
      exact ⟨_, _, _, _, _, pI, pS, RdWNo⟩

theorem forms {k : Nat} {l : List GIns} (hl : l.length ≤ 1048576) : ∀ (m j : Nat), l.length - j < m → j ≤ l.length →
    ∃ o, pspec_TermOf_L1 k l m (j : Int) = some o ∧ (match o with | .ret r => r = (GTerm.mk 0 (bs []) 0 [], false) ∧ (∃ i, ∃ h : i < l.length, j ≤ i ∧ fm l[i] = false) | .done _ => ∀ i (h : i < l.length), j ≤ i → fm l[i] = true)
  | 0, j, h1, h2 => by omega
  | m + 1, j, h1, h2 => by
    unfold pspec_TermOf_L1
    by_cases hlt : j < l.length
    · rw [if_pos (by simpa using hlt), at_lt hlt]
      simp only [Option.bind_some, l12Form]
      cases hf : fm l[j] with
      | false => exact ⟨.ret (GTerm.mk 0 (bs []) 0 [], false), by simp only [Bool.not_false, if_true], rfl, j, hlt, Nat.le_refl _, hf⟩
      | true =>
        simp only [Bool.not_true, Bool.false_eq_true, if_false]
        rw [wr_succ hlt (by rw [maxLen_eq]; omega)]
        obtain ⟨o, g1, g2⟩ := forms (k := k) hl m (j + 1) (by omega) (by omega)
        refine ⟨o, g1, ?_⟩
        cases o with
        | ret r => obtain ⟨e, i, hi, i1, i2⟩ := g2; exact ⟨e, i, hi, by omega, i2⟩
        | done u =>
          intro i hi i1
          by_cases e : i = j
          · subst e; exact hf
          · exact g2 i hi (by omega)
    · rw [if_neg (by simpa using hlt)]
      exact ⟨_, rfl, fun i hi i1 => by omega⟩

theorem same {k : Nat} {l : List GIns} (hl : l.length ≤ 1048576) (hok : ∀ x ∈ l, GIns.ok x) (hk : maxLen + 1099511627776 < k) : ∃ p, pspec_TermOf k l = some p ∧ pimpl_TermOf_d k l = some p ∧ nT p.1 ≤ 1048576 := by
  have hM := maxLen_eq
  have hb : ∀ m k : Nat, m + 1099511627776 < k → 60 < (k : Int) + 1 ∧ m + 2 * 1048576 + 2 < k ∧ l.length < k := fun m k h => by omega
  obtain ⟨hk1, hk2, hk3⟩ := hb _ _ hk
  obtain ⟨t, nx, ok, t', nx', e1, e2, r1, r2, r3, r4⟩ := read hl hok k 0 1 (by omega) (by omega) hk1 (by omega)
  rw [show ((0 : Nat) : Int) = 0 from rfl] at e1 e2
  have z : nT ((GTerm.mk 0 (bs []) 0 [], false) : GTerm × Bool).1 ≤ 1048576 := by
    show nT (GTerm.mk 0 (bs []) 0 []) ≤ _
    rw [nT_leaf]; exact Nat.zero_le _
  unfold pspec_TermOf pimpl_TermOf_d
  rw [e1, e2]
  simp only [Option.bind_some, eta]
  have zero : ∀ p q : Option (GTerm × Bool), p = some (GTerm.mk 0 (bs []) 0 [], false) → q = some (GTerm.mk 0 (bs []) 0 [], false) → ∃ r, p = some r ∧ q = some r ∧ nT r.1 ≤ 1048576 := by
    rintro p q rfl rfl; exact ⟨_, rfl, rfl, z⟩
  -- the reference says no
  have spec_no : (nx' = -1 ∨ gT 1 t' = false ∨ ∃ i, ∃ h : i < l.length, 0 ≤ i ∧ (i : Int) < nx' ∧ fm l[i] = false) →
      (if (nx' != (l.length : Int)) = true then some (GTerm.mk 0 (bs []) 0 [], false) else (pspec_TermOk k t').bind fun d => if (!d) = true then some (GTerm.mk 0 (bs []) 0 [], false) else (pspec_TermOf_L1 k l k 0).bind fun out1 => match out1 with | .ret r => some r | .done () => some (t', true)) = some (GTerm.mk 0 (bs []) 0 [], false) := by
    intro h
    by_cases hx : nx' = (l.length : Int)
    · rw [if_neg (by simpa using hx)]
      rcases r2 with h0 | ⟨n, rfl, n1, n2, n3⟩
      · omega
      have hnt : nT t' ≤ 1048576 := by omega
      rw [spec_TermOk (k := k) (x := t') (Nat.lt_of_le_of_lt (Nat.add_le_add_right (Nat.add_le_add_left (Nat.mul_le_mul_left 2 hnt) _) 2) hk2) r1]
      simp only [Option.bind_some]
      cases ht : tOk t' with
      | false => rfl
      | true =>
        simp only [Bool.not_true, Bool.false_eq_true, if_false]
        obtain ⟨o, g1, g2⟩ := forms (k := k) hl k 0 (by omega) (by omega)
        rw [show ((0 : Nat) : Int) = 0 from rfl] at g1
        rw [g1]
        simp only [Option.bind_some]
        cases o with
        | ret r => rw [g2.1]
        | done u =>
          rcases h with h | h | ⟨i, hi, _, _, i3⟩
          · omega
          · unfold tOk at ht; rw [h] at ht; simp at ht
          · have := g2 i hi (Nat.zero_le _); rw [i3] at this; cases this
    · rw [if_pos (by simpa using hx)]
  cases ok with
  | false =>
    refine zero _ _ (spec_no (by
      rcases r4 rfl with h | h | ⟨i, hi, i1, i2, i3⟩
      · exact .inl h
      · exact .inr (.inl h)
      · exact .inr (.inr ⟨i, hi, Nat.zero_le _, i2, i3⟩))) (by simp)
  | true =>
    obtain ⟨rfl, rfl, r5, r6⟩ := r3 rfl
    rcases r2 with h0 | ⟨n, rfl, n1, n2, n3⟩
    · omega
    have hnt : nT t ≤ 1048576 := by omega
    have hkt : maxLen + 2 * nT t + 2 < k := Nat.lt_of_le_of_lt (Nat.add_le_add_right (Nat.add_le_add_left (Nat.mul_le_mul_left 2 hnt) _) 2) hk2
    simp only [Bool.not_true, Bool.false_eq_true, if_false]
    by_cases hx : (n : Int) = (l.length : Int)
    · have hx' : ¬ ((n : Int) != (l.length : Int)) = true := by simpa using hx
      rw [if_neg hx', if_neg hx', spec_TermOk hkt r1, impl_TermOk hkt r1]
      simp only [Option.bind_some]
      cases ht : tOk t with
      | false => exact ⟨_, rfl, rfl, z⟩
      | true =>
        simp only [Bool.not_true, Bool.false_eq_true, if_false]
        obtain ⟨o, g1, g2⟩ := forms (k := k) hl k 0 (by omega) (by omega)
        rw [show ((0 : Nat) : Int) = 0 from rfl] at g1
        rw [g1]
        simp only [Option.bind_some]
        cases o with
        | ret r =>
          obtain ⟨_, i, hi, _, i3⟩ := g2
          have := r6 i hi (Nat.zero_le _) (by omega)
          rw [i3] at this; cases this
        | done u => exact ⟨_, rfl, rfl, hnt⟩
    · have hx' : ((n : Int) != (l.length : Int)) = true := by simpa using hx
      rw [if_pos hx', if_pos hx']
      exact ⟨_, rfl, rfl, z⟩

theorem law (l : List GIns) (hl : okL GIns.ok l) : ∃ k, plaws_FnExactTermOf k l = some true := by
  obtain ⟨k, hk⟩ : ∃ k, maxLen + 4 * nsum nIns l + 1099511627776 < k := ⟨_, Nat.lt_succ_self _⟩
  refine ⟨k, ?_⟩
  have hm : maxLen = 9223372036854775807 := maxLen_eq
  have hH : Huge = 1152921504606846976 := rfl
  have hw : maxLen + 2 * nsum nIns l + 2 < k := by omega
  unfold plaws_FnExactTermOf
  obtain ⟨r, e1, h2, h3⟩ := szInsS (k := k) hw hl 1048576 (by omega) (by unfold Small; omega)
  rw [e1]
  simp only [Option.bind_some]
  by_cases hr : r < 0
  · rw [if_pos (by simpa using hr)]
  rw [if_neg (by simpa using hr)]
  have hn : nsum nIns l ≤ 1048576 := by omega
  have hlen := nIns_len l
  have t0 := toInsS (k := k) (l := l) hw hn
  have t1 : plaws_toInsS_d k l = some l := by rw [plaws_toInsS_dd]; exact t0
  obtain ⟨p, e2, e4, np⟩ := same (k := k) (l := l) (by omega) hl.2 (by omega)
  obtain ⟨u, c, a1, a4, a5⟩ := markInsS (k := k) (l := l) hw 1 (by omega) (by omega)
  obtain ⟨z, d, b1, b2, b3, b4, b5⟩ := markTerm (k := k) (x := p.1) (by omega) 1 (by omega) (by omega)
  have q1 := eqTerm (k := k) (x := p.1) (by omega) (by omega)
  have q2 := eqInsS (k := k) (l := l) hw (by omega)
  have hc : ∀ c : Int, 1 ≤ c → (decide (c < 0)) = false := fun c h => by simpa using (by omega : 0 ≤ c)
  simp only [t0, t1, e2, e4, eta, q1, q2, a1, b1, b2, b3, hc c (by omega), hc d b4, Option.bind_some, Bool.not_true, Bool.false_eq_true, if_false, bne_self_eq_false, beq_self_eq_true]
end FnExactTermOf
end Go.Proofs.Ytbfkmgenokhkgaa

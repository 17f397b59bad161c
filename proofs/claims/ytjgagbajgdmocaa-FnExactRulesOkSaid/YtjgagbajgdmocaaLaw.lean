/- The law, plainly. -/
import Derived.Test.YtjgagbajgdmocaaFn
set_option linter.unusedVariables false
set_option linter.unusedSimpArgs false
namespace Go.Proofs.Ytjgagbajgdmocaa
open Go.RowKit Go.Bv
namespace FnExactRulesOk
def nPart (x : GPart) : Nat := 0

theorem szPart {k : Nat} {x : GPart} (hw : maxLen + 2 * (nPart x) + 2 < k) (hx : x.ok) (b : Int) (h0 : 0 ≤ b) (h1 : b ≤ Small) : ∃ r, plaws_szPart k x b = some r ∧ -1 ≤ r ∧ (0 ≤ r → r + (nPart x : Int) ≤ b) := by
  unfold nPart at *
  unfold plaws_szPart
  have hS : Small = 1048576 := rfl
  have hs1 : x.gName.size ≤ 9223372036854775807 := by have := hx.2; unfold okFs at this; rw [maxLen_eq] at this; exact this
  have hr1 : wr.i64 (b - (x.gName.size : Int)) = (b - (x.gName.size : Int)) := wr_i64 (by omega) (by omega)
  rw [hr1]
  by_cases c1 : (b - (x.gName.size : Int)) < 0
  · rw [if_pos (by simpa using c1)]; exact ⟨_, rfl, by omega, by omega⟩
  rw [if_neg (by simpa using c1)]
  exact ⟨_, rfl, by omega, fun h => by omega⟩

theorem toPart {k : Nat} {x : GPart} (hw : maxLen + 2 * (nPart x) + 2 < k) (hx : nPart x ≤ 1048576) : plaws_toPart k x = some x := by
  unfold nPart at *
  unfold plaws_toPart
  rfl

theorem eqPart {k : Nat} {x : GPart} (hw : maxLen + 2 * (nPart x) + 2 < k) (hx : nPart x ≤ Huge) : plaws_eqPart k x x = some true := by
  unfold nPart at *
  unfold plaws_eqPart
  simp [sEq_refl]

theorem szPartS {k : Nat} {l : List GPart} (hw : maxLen + 2 * (nsum nPart l) + 2 < k) (hl : okL (GPart.ok) l) (b : Int) (h0 : 0 ≤ b) (h1 : b ≤ Small) : ∃ r, plaws_szPartS k l b = some r ∧ -1 ≤ r ∧ (0 ≤ r → r + (nsum nPart l : Int) ≤ b) := by
  exact sz2 (f := plaws_szPart k) (L := plaws_szPartS_L1 k l) hl.1 (fun x hx b h0 h1 => by have := nsum_mem (n := nPart) hx; exact szPart (by omega) (hl.2 x hx) b h0 h1) (fun m b i => rfl) (by omega) b h0 h1

theorem toPartS {k : Nat} {l : List GPart} (hw : maxLen + 2 * (nsum nPart l) + 2 < k) (hl : nsum nPart l ≤ 1048576) : plaws_toPartS k l = some l := by
  have := nsum_len nPart l
  have h := to2 (f := plaws_toPart k) (L := plaws_toPartS_L1 k l) (by omega) (fun x hx => by have := nsum_mem (n := nPart) hx; exact toPart (by omega) (by omega)) (fun m i o => rfl) (k := k) (by omega) (GPart.mk false (bs []))
  unfold plaws_toPartS
  rw [if_pos h.1, h.2]; rfl

theorem eqPartS {k : Nat} {l : List GPart} (hw : maxLen + 2 * (nsum nPart l) + 2 < k) (hl : nsum nPart l ≤ Huge) : plaws_eqPartS k l l = some true := by
  have := nsum_len nPart l
  exact eq2 (f := plaws_eqPart k) (L := plaws_eqPartS_L1 k l l) (by omega) (fun x hx => by have := nsum_mem (n := nPart) hx; exact eqPart (by omega) (by omega)) (fun m i => rfl) (k := k) (by omega)

def nRule (x : GRule) : Nat := nsum nPart x.gParts

theorem szRule {k : Nat} {x : GRule} (hw : maxLen + 2 * (nRule x) + 2 < k) (hx : x.ok) (b : Int) (h0 : 0 ≤ b) (h1 : b ≤ Small) : ∃ r, plaws_szRule k x b = some r ∧ -1 ≤ r ∧ (0 ≤ r → r + (nRule x : Int) ≤ b) := by
  unfold nRule at *
  unfold plaws_szRule
  have hS : Small = 1048576 := rfl
  have hs1 : x.gName.size ≤ 9223372036854775807 := by have := hx.1; unfold okFs at this; rw [maxLen_eq] at this; exact this
  have hr1 : wr.i64 (b - (x.gName.size : Int)) = (b - (x.gName.size : Int)) := wr_i64 (by omega) (by omega)
  rw [hr1]
  by_cases c1 : (b - (x.gName.size : Int)) < 0
  · rw [if_pos (by simpa using c1)]; exact ⟨_, rfl, by omega, by omega⟩
  rw [if_neg (by simpa using c1)]
  obtain ⟨r2, e2, l2, u2⟩ := szPartS (k := k) (l := x.gParts) (by omega) hx.2 (b - (x.gName.size : Int)) (by omega) (by omega)
  rw [e2]
  simp only [Option.bind_some]
  by_cases c2 : r2 < 0
  · rw [if_pos (by simpa using c2)]; exact ⟨_, rfl, by omega, by omega⟩
  rw [if_neg (by simpa using c2)]
  exact ⟨_, rfl, by omega, fun h => by omega⟩

theorem toRule {k : Nat} {x : GRule} (hw : maxLen + 2 * (nRule x) + 2 < k) (hx : nRule x ≤ 1048576) : plaws_toRule k x = some x := by
  unfold nRule at *
  unfold plaws_toRule
  rw [toPartS (k := k) (l := x.gParts) (by omega) (by omega)]
  simp only [Option.bind_some]

theorem eqRule {k : Nat} {x : GRule} (hw : maxLen + 2 * (nRule x) + 2 < k) (hx : nRule x ≤ Huge) : plaws_eqRule k x x = some true := by
  unfold nRule at *
  unfold plaws_eqRule
  rw [eqPartS (k := k) (l := x.gParts) (by omega) (by omega)]
  simp [sEq_refl]

theorem szRuleS {k : Nat} {l : List GRule} (hw : maxLen + 2 * (nsum nRule l) + 2 < k) (hl : okL (GRule.ok) l) (b : Int) (h0 : 0 ≤ b) (h1 : b ≤ Small) : ∃ r, plaws_szRuleS k l b = some r ∧ -1 ≤ r ∧ (0 ≤ r → r + (nsum nRule l : Int) ≤ b) := by
  exact sz2 (f := plaws_szRule k) (L := plaws_szRuleS_L1 k l) hl.1 (fun x hx b h0 h1 => by have := nsum_mem (n := nRule) hx; exact szRule (by omega) (hl.2 x hx) b h0 h1) (fun m b i => rfl) (by omega) b h0 h1

theorem toRuleS {k : Nat} {l : List GRule} (hw : maxLen + 2 * (nsum nRule l) + 2 < k) (hl : nsum nRule l ≤ 1048576) : plaws_toRuleS k l = some l := by
  have := nsum_len nRule l
  have h := to2 (f := plaws_toRule k) (L := plaws_toRuleS_L1 k l) (by omega) (fun x hx => by have := nsum_mem (n := nRule) hx; exact toRule (by omega) (by omega)) (fun m i o => rfl) (k := k) (by omega) (GRule.mk (bs []) [])
  unfold plaws_toRuleS
  rw [if_pos h.1, h.2]; rfl

theorem eqRuleS {k : Nat} {l : List GRule} (hw : maxLen + 2 * (nsum nRule l) + 2 < k) (hl : nsum nRule l ≤ Huge) : plaws_eqRuleS k l l = some true := by
  have := nsum_len nRule l
  exact eq2 (f := plaws_eqRule k) (L := plaws_eqRuleS_L1 k l l) (by omega) (fun x hx => by have := nsum_mem (n := nRule) hx; exact eqRule (by omega) (by omega)) (fun m i => rfl) (k := k) (by omega)
/-- A small letter stands there. -/
def low (s : ByteArray) (i : Nat) : Prop := 97 ≤ bt s (i : Int) ∧ bt s (i : Int) ≤ 122
/-- A file's name: one to eight small letters. -/
def nameOk (s : ByteArray) : Prop := (∀ i, i < s.size → low s i) ∧ 1 ≤ s.size ∧ s.size ≤ 8
instance (s : ByteArray) (i : Nat) : Decidable (low s i) := by unfold low; infer_instance
instance (s : ByteArray) : Decidable (nameOk s) := by unfold nameOk; infer_instance

theorem l05Small (k : Nat) (s : ByteArray) (i : Nat) : pspec_l05Small k (bt s (i : Int)) = some (decide (low s i)) := by
  unfold pspec_l05Small low
  by_cases h : 97 ≤ bt s (i : Int)
  · rw [if_pos (by simpa using h)]; simp [h]
  · rw [if_neg (by simpa using h)]; simp [h]

theorem lower (k : Nat) (s : ByteArray) (i : Nat) : pimpl_lower k (bt s (i : Int)) = some (decide (low s i)) := by
  unfold pimpl_lower low
  by_cases h : 97 ≤ bt s (i : Int)
  · rw [if_pos (by simpa using h)]; simp [h]
  · rw [if_neg (by simpa using h)]; simp [h]

theorem l01In (k : Nat) (x a b : Int) : pspec_l01In k x a b = some (decide (a ≤ x ∧ x ≤ b)) := by
  unfold pspec_l01In
  by_cases h : a ≤ x
  · rw [if_pos (by simpa using h)]; simp [h]
  · rw [if_neg (by simpa using h)]; simp [h]

theorem within (k : Nat) (x a b : Int) : pimpl_within k x a b = some (decide (a ≤ x ∧ x ≤ b)) := by
  unfold pimpl_within
  by_cases h : a ≤ x
  · rw [if_pos (by simpa using h)]; simp [h]
  · rw [if_neg (by simpa using h)]; simp [h]

theorem l16Name_L1 (k : Nat) (s : ByteArray) (hs : s.size ≤ maxLen) : ∀ (m n : Nat), n ≤ s.size → s.size - n < m →
    ∃ o, pspec_l16Name_L1 k s m (n : Int) = some o ∧ (match o with | .ret r => r = false ∧ ∃ i, i < s.size ∧ ¬ low s i | .done _ => ∀ i, n ≤ i → i < s.size → low s i)
  | 0, n, h1, h2 => by omega
  | m + 1, n, h1, h2 => by
    unfold pspec_l16Name_L1
    by_cases hlt : n < s.size
    · rw [if_pos (by simpa using hlt), if_pos ⟨by omega, by simpa using hlt⟩, l05Small]
      simp only [Option.bind_some]
      by_cases hl : low s n
      · rw [if_neg (by simp [hl]), wr_succ hlt hs]
        obtain ⟨o, h3, h4⟩ := l16Name_L1 k s hs m (n + 1) (by omega) (by omega)
        refine ⟨o, h3, ?_⟩
        cases o with
        | ret r => exact h4
        | done u =>
          intro i hi1 hi2
          by_cases e : i = n
          · subst e; exact hl
          · exact h4 i (by omega) hi2
      · rw [if_pos (by simp [hl])]
        exact ⟨_, rfl, rfl, n, hlt, hl⟩
    · rw [if_neg (by simpa using hlt)]
      exact ⟨_, rfl, fun i h3 h4 => by omega⟩

theorem l16Name {k : Nat} {s : ByteArray} (hs : s.size ≤ maxLen) (hk : maxLen < k) : pspec_l16Name k s = some (decide (nameOk s)) := by
  unfold pspec_l16Name
  obtain ⟨o, h1, h2⟩ := l16Name_L1 k s hs k 0 (by omega) (by omega)
  rw [show ((0 : Nat) : Int) = 0 from rfl] at h1
  rw [h1]
  cases o with
  | ret r =>
    obtain ⟨rfl, i, h3, h4⟩ := h2
    have : ¬ nameOk s := fun h => h4 (h.1 i h3)
    simp [this]
  | done u =>
    simp only [Option.bind_some]
    rw [l01In]
    simp only [Option.bind_some]
    have : (∀ i, i < s.size → low s i) := fun i hi => h2 i (by omega) hi
    congr 1
    rw [decide_eq_decide]
    unfold nameOk
    constructor
    · intro h; exact ⟨this, by omega, by omega⟩
    · intro h; obtain ⟨_, h5, h6⟩ := h; omega

theorem run_L1 (k : Nat) (s : ByteArray) (hs : s.size ≤ maxLen) : ∀ (m n : Nat), n ≤ s.size → s.size - n < m →
    ∃ j : Nat, pimpl_run_on2_pimpl_lower_L1 k s m (n : Int) = some (.done (j : Int)) ∧ n ≤ j ∧ j ≤ s.size ∧ (∀ i, n ≤ i → i < j → low s i) ∧ (j < s.size → ¬ low s j)
  | 0, n, h1, h2 => by omega
  | m + 1, n, h1, h2 => by
    unfold pimpl_run_on2_pimpl_lower_L1
    by_cases hlt : n < s.size
    · rw [if_pos (by simpa using hlt), if_pos ⟨by omega, by simpa using hlt⟩, lower]
      simp only [Option.bind_some]
      by_cases hl : low s n
      · rw [if_pos (by simp [hl]), wr_succ hlt hs]
        obtain ⟨j, h3, h4, h5, h6, h7⟩ := run_L1 k s hs m (n + 1) (by omega) (by omega)
        refine ⟨j, h3, by omega, h5, fun i hi1 hi2 => ?_, h7⟩
        by_cases e : i = n
        · subst e; exact hl
        · exact h6 i (by omega) hi2
      · rw [if_neg (by simp [hl])]
        exact ⟨n, rfl, by omega, by omega, fun i h3 h4 => by omega, fun _ => hl⟩
    · rw [if_neg (by simpa using hlt)]
      exact ⟨n, rfl, by omega, by omega, fun i h3 h4 => by omega, fun h => absurd h hlt⟩

theorem fileName {k : Nat} {s : ByteArray} (hs : s.size ≤ maxLen) (hk : maxLen < k) : pimpl_fileName k s = some (decide (nameOk s)) := by
  unfold pimpl_fileName
  rw [within]
  simp only [Option.bind_some]
  by_cases hz : (1 : Int) ≤ (s.size : Int) ∧ (s.size : Int) ≤ 8
  · rw [if_pos (by simpa using hz)]
    unfold pimpl_run_on2_pimpl_lower
    obtain ⟨j, h1, h2, h3, h4, h5⟩ := run_L1 k s hs k 0 (by omega) (by omega)
    rw [show ((0 : Nat) : Int) = 0 from rfl] at h1
    rw [h1]
    simp only [Option.bind_some]
    congr 1
    by_cases hj : j = s.size
    · subst hj
      have : nameOk s := ⟨fun i hi => h4 i (by omega) hi, by omega, by omega⟩
      simp [this]
    · have : ¬ nameOk s := fun h => h5 (by omega) (h.1 j (by omega))
      have h6 : ((j : Int) == (s.size : Int)) = false := by
        rw [beq_eq_false_iff_ne]; omega
      rw [h6]; simp [this]
  · rw [if_neg (by simpa using hz)]
    have : ¬ nameOk s := fun h => hz ⟨by have := h.2.1; omega, by have := h.2.2; omega⟩
    simp [this]
/-- Is it in the list? -/
def has (s : List ByteArray) (x : ByteArray) : Bool := s.any (fun y => sEq x y)
theorem has_iff {s : List ByteArray} {x : ByteArray} : has s x = true ↔ x ∈ s := by
  unfold has
  rw [List.any_eq_true]
  constructor
  · rintro ⟨y, hy, e⟩; rw [sEq_iff.1 e]; exact hy
  · intro h; exact ⟨x, h, sEq_refl x⟩
theorem has_not {s : List ByteArray} {x : ByteArray} (h : has s x = false) : ¬ x ∈ s := fun hm => by rw [has_iff.2 hm] at h; cases h
theorem sEq_comm (x y : ByteArray) : sEq x y = sEq y x := by
  cases h : sEq x y with
  | true => rw [sEq_iff.1 h, sEq_refl]
  | false =>
    cases h2 : sEq y x with
    | false => rfl
    | true => rw [sEq_iff.1 h2, sEq_refl] at h; cases h
theorem sindex_L1 (k : Nat) {l : List ByteArray} (x : ByteArray) (hl : l.length ≤ maxLen) : ∀ (m j : Nat), j ≤ l.length → l.length - j < m →
    ∃ o, pslices_Index___string_string__L1 k l x m (j : Int) = some o ∧ (match o with | .ret i => 0 ≤ i ∧ x ∈ l.drop j | .done _ => ¬ x ∈ l.drop j)
  | 0, j, h1, h2 => by omega
  | m + 1, j, h1, h2 => by
    unfold pslices_Index___string_string__L1
    by_cases hlt : j < l.length
    · rw [if_pos (by simpa using hlt), at_lt hlt, List.drop_eq_getElem_cons hlt]
      simp only [Option.bind_some]
      cases e : sEq x l[j] with
      | true =>
        rw [if_pos rfl]
        exact ⟨_, rfl, by omega, by rw [List.mem_cons]; exact .inl (sEq_iff.1 e)⟩
      | false =>
        rw [if_neg (by simp), wr_succ hlt hl]
        obtain ⟨o, h3, h4⟩ := sindex_L1 k x hl m (j + 1) (by omega) (by omega)
        refine ⟨o, h3, ?_⟩
        cases o with
        | ret i => exact ⟨h4.1, List.mem_cons_of_mem _ h4.2⟩
        | done u =>
          intro hm
          rcases List.mem_cons.1 hm with hm | hm
          · rw [hm, sEq_refl] at e; cases e
          · exact h4 hm
    · rw [if_neg (by simpa using hlt), List.drop_of_length_le (by omega)]
      exact ⟨_, rfl, by simp⟩
theorem scontains {k : Nat} {l : List ByteArray} (x : ByteArray) (hl : l.length ≤ maxLen) (hk : maxLen < k) : pslices_Contains___string_string_ k l x = some (has l x) := by
  unfold pslices_Contains___string_string_ pslices_Index___string_string_
  obtain ⟨o, h1, h2⟩ := sindex_L1 k x hl k 0 (by omega) (by omega)
  rw [show ((0 : Nat) : Int) = 0 from rfl] at h1
  rw [h1]
  rw [List.drop_zero] at h2
  cases o with
  | ret i => simp [h2.1, has_iff.2 h2.2]
  | done u =>
    simp only [Option.bind_some]
    have : ¬ x ∈ l := h2
    cases h : has l x with
    | false => simp
    | true => exact absurd (has_iff.1 h) this
/-- The names of control. -/
def ctl : List ByteArray := [(bs [116, 114, 117, 101, 47, 48]), (bs [102, 97, 105, 108, 47, 48]), (bs [33, 47, 48]), (bs [44, 47, 50]), (bs [59, 47, 50]), (bs [45, 62, 47, 50]), (bs [92, 43, 47, 49]), (bs [99, 97, 108, 108, 47, 49]), (bs [99, 97, 108, 108, 47, 50]), (bs [99, 97, 108, 108, 47, 51]), (bs [99, 97, 116, 99, 104, 47, 51]), (bs [116, 104, 114, 111, 119, 47, 49]), (bs [61, 47, 50]), (bs [92, 61, 47, 50]), (bs [61, 61, 47, 50]), (bs [105, 115, 47, 50]), (bs [60, 47, 50]), (bs [61, 58, 61, 47, 50]), (bs [118, 97, 114, 47, 49]), (bs [97, 116, 111, 109, 47, 49]), (bs [119, 114, 105, 116, 101, 47, 49]), (bs [97, 115, 115, 101, 114, 116, 122, 47, 49]), (bs [114, 101, 116, 114, 97, 99, 116, 47, 49]), (bs [58, 45, 47, 50]), (bs [58, 45, 47, 49]), (bs [45, 45, 62, 47, 50])]
theorem spec_Control (k : Nat) (s : ByteArray) : pspec_Control k s = some (has ctl s) := by
  unfold pspec_Control pspec_Control_J1 has ctl
  simp only [List.any_cons, List.any_nil]
  generalize sEq s (bs [116, 114, 117, 101, 47, 48]) = b0
  generalize sEq s (bs [102, 97, 105, 108, 47, 48]) = b1
  generalize sEq s (bs [33, 47, 48]) = b2
  generalize sEq s (bs [44, 47, 50]) = b3
  generalize sEq s (bs [59, 47, 50]) = b4
  generalize sEq s (bs [45, 62, 47, 50]) = b5
  generalize sEq s (bs [92, 43, 47, 49]) = b6
  generalize sEq s (bs [99, 97, 108, 108, 47, 49]) = b7
  generalize sEq s (bs [99, 97, 108, 108, 47, 50]) = b8
  generalize sEq s (bs [99, 97, 108, 108, 47, 51]) = b9
  generalize sEq s (bs [99, 97, 116, 99, 104, 47, 51]) = b10
  generalize sEq s (bs [116, 104, 114, 111, 119, 47, 49]) = b11
  generalize sEq s (bs [61, 47, 50]) = b12
  generalize sEq s (bs [92, 61, 47, 50]) = b13
  generalize sEq s (bs [61, 61, 47, 50]) = b14
  generalize sEq s (bs [105, 115, 47, 50]) = b15
  generalize sEq s (bs [60, 47, 50]) = b16
  generalize sEq s (bs [61, 58, 61, 47, 50]) = b17
  generalize sEq s (bs [118, 97, 114, 47, 49]) = b18
  generalize sEq s (bs [97, 116, 111, 109, 47, 49]) = b19
  generalize sEq s (bs [119, 114, 105, 116, 101, 47, 49]) = b20
  generalize sEq s (bs [97, 115, 115, 101, 114, 116, 122, 47, 49]) = b21
  generalize sEq s (bs [114, 101, 116, 114, 97, 99, 116, 47, 49]) = b22
  generalize sEq s (bs [58, 45, 47, 50]) = b23
  generalize sEq s (bs [58, 45, 47, 49]) = b24
  generalize sEq s (bs [45, 45, 62, 47, 50]) = b25
  cases b0 with
  | true => simp
  | false =>
  simp only [Bool.false_eq_true, if_false, if_true, Bool.false_or, Bool.or_false]
  cases b1 with
  | true => simp
  | false =>
  simp only [Bool.false_eq_true, if_false, if_true, Bool.false_or, Bool.or_false]
  cases b2 with
  | true => simp
  | false =>
  simp only [Bool.false_eq_true, if_false, if_true, Bool.false_or, Bool.or_false]
  cases b3 with
  | true => simp
  | false =>
  simp only [Bool.false_eq_true, if_false, if_true, Bool.false_or, Bool.or_false]
  cases b4 with
  | true => simp
  | false =>
  simp only [Bool.false_eq_true, if_false, if_true, Bool.false_or, Bool.or_false]
  cases b5 with
  | true => simp
  | false =>
  simp only [Bool.false_eq_true, if_false, if_true, Bool.false_or, Bool.or_false]
  cases b6 with
  | true => simp
  | false =>
  simp only [Bool.false_eq_true, if_false, if_true, Bool.false_or, Bool.or_false]
  cases b7 with
  | true => simp
  | false =>
  simp only [Bool.false_eq_true, if_false, if_true, Bool.false_or, Bool.or_false]
  cases b8 with
  | true => simp
  | false =>
  simp only [Bool.false_eq_true, if_false, if_true, Bool.false_or, Bool.or_false]
  cases b9 with
  | true => simp
  | false =>
  simp only [Bool.false_eq_true, if_false, if_true, Bool.false_or, Bool.or_false]
  cases b10 with
  | true => simp
  | false =>
  simp only [Bool.false_eq_true, if_false, if_true, Bool.false_or, Bool.or_false]
  cases b11 with
  | true => simp
  | false =>
  simp only [Bool.false_eq_true, if_false, if_true, Bool.false_or, Bool.or_false]
  cases b12 with
  | true => simp
  | false =>
  simp only [Bool.false_eq_true, if_false, if_true, Bool.false_or, Bool.or_false]
  cases b13 with
  | true => simp
  | false =>
  simp only [Bool.false_eq_true, if_false, if_true, Bool.false_or, Bool.or_false]
  cases b14 with
  | true => simp
  | false =>
  simp only [Bool.false_eq_true, if_false, if_true, Bool.false_or, Bool.or_false]
  cases b15 with
  | true => simp
  | false =>
  simp only [Bool.false_eq_true, if_false, if_true, Bool.false_or, Bool.or_false]
  cases b16 with
  | true => simp
  | false =>
  simp only [Bool.false_eq_true, if_false, if_true, Bool.false_or, Bool.or_false]
  cases b17 with
  | true => simp
  | false =>
  simp only [Bool.false_eq_true, if_false, if_true, Bool.false_or, Bool.or_false]
  cases b18 with
  | true => simp
  | false =>
  simp only [Bool.false_eq_true, if_false, if_true, Bool.false_or, Bool.or_false]
  cases b19 with
  | true => simp
  | false =>
  simp only [Bool.false_eq_true, if_false, if_true, Bool.false_or, Bool.or_false]
  cases b20 with
  | true => simp
  | false =>
  simp only [Bool.false_eq_true, if_false, if_true, Bool.false_or, Bool.or_false]
  cases b21 with
  | true => simp
  | false =>
  simp only [Bool.false_eq_true, if_false, if_true, Bool.false_or, Bool.or_false]
  cases b22 with
  | true => simp
  | false =>
  simp only [Bool.false_eq_true, if_false, if_true, Bool.false_or, Bool.or_false]
  cases b23 with
  | true => simp
  | false =>
  simp only [Bool.false_eq_true, if_false, if_true, Bool.false_or, Bool.or_false]
  cases b24 with
  | true => simp
  | false =>
  simp only [Bool.false_eq_true, if_false, if_true, Bool.false_or, Bool.or_false]
  cases b25 with
  | true => simp
  | false =>
  simp only [Bool.false_eq_true, if_false, if_true, Bool.false_or, Bool.or_false]
theorem impl_Control {k : Nat} (s : ByteArray) (hk : maxLen < k) : pimpl_Control k s = some (has ctl s) := by
  unfold pimpl_Control
  have h := scontains (k := k) (l := ctl) s (by rw [maxLen_eq]; decide) hk
  unfold ctl at h
  rw [h]; rfl
/-- Both say alike what a rule's name is. -/
theorem names {k : Nat} {s : ByteArray} (hs : s.size ≤ maxLen) (hk : maxLen < k) : ∃ b, pspec_l18Name k s = some b ∧ pimpl_ruleName k s = some b := by
  unfold pspec_l18Name pimpl_ruleName
  rw [l16Name hs hk, fileName hs hk]
  simp only [Option.bind_some, spec_Control, impl_Control _ hk]
  by_cases hn : nameOk s
  · have h1 : sumOk s (bs [47, 48]) := by unfold sumOk; have := hn.2.2; have : (bs [47, 48]).size = 2 := rfl; omega
    have h2 : sumOk s (bs [47, 50]) := by unfold sumOk; have := hn.2.2; have : (bs [47, 50]).size = 2 := rfl; omega
    simp only [decide_eq_true hn, if_true, if_pos h1, if_pos h2]
    split
    · split
      · split
        · exact ⟨_, rfl, rfl⟩
        · exact ⟨_, rfl, rfl⟩
      · exact ⟨_, rfl, rfl⟩
    · exact ⟨_, rfl, rfl⟩
  · rw [decide_eq_false hn]
    exact ⟨false, by simp, by simp⟩

def FP : List GPart → List ByteArray
  | [] => []
  | p :: l => if p.gWord then [] else p.gName :: FP l
/-- The names that stand first in the rules of a name. -/
def FR (a : ByteArray) : List GRule → List ByteArray
  | [] => []
  | r :: l => (if sEq r.gName a then FP r.gParts else []) ++ FR a l
theorem FP_len : ∀ l : List GPart, (FP l).length ≤ l.length
  | [] => by simp [FP]
  | p :: l => by
    have := FP_len l
    rw [FP]; split <;> simp <;> omega
theorem FR_len (a : ByteArray) : ∀ l : List GRule, (FR a l).length ≤ nsum nRule l
  | [] => by simp [FR]
  | r :: l => by
    have h1 := FR_len a l
    have h2 := FP_len r.gParts
    have h3 := nsum_len nPart r.gParts
    rw [FR, nsum]
    unfold nRule at *
    split <;> simp only [List.length_append, List.length_nil] <;> omega
/-- All names of parts. -/
def UN : List GRule → List ByteArray
  | [] => []
  | r :: l => r.gParts.map GPart.gName ++ UN l
theorem UN_len : ∀ l : List GRule, (UN l).length ≤ nsum nRule l
  | [] => by simp [UN]
  | r :: l => by
    have h1 := UN_len l
    have h3 := nsum_len nPart r.gParts
    rw [UN, nsum]
    unfold nRule at *
    simp only [List.length_append, List.length_map]; omega
theorem FP_sub : ∀ (l : List GPart), ∀ x ∈ FP l, x ∈ l.map GPart.gName
  | [], x, h => by simp [FP] at h
  | p :: l, x, h => by
    rw [FP] at h
    split at h
    · cases h
    · rw [List.map_cons]
      rcases List.mem_cons.1 h with rfl | h
      · exact List.mem_cons_self
      · exact List.mem_cons_of_mem _ (FP_sub l x h)
theorem FR_sub (a : ByteArray) : ∀ (l : List GRule), ∀ x ∈ FR a l, x ∈ UN l
  | [], x, h => by simp [FR] at h
  | r :: l, x, h => by
    rw [FR] at h
    rw [UN]
    rcases List.mem_append.1 h with h | h
    · split at h
      · exact List.mem_append_left _ (FP_sub _ x h)
      · cases h
    · exact List.mem_append_right _ (FR_sub a l x h)

/-- How many of U are not in s. -/
def un (s : List ByteArray) : List ByteArray → Nat
  | [] => 0
  | u :: U => (if has s u then 0 else 1) + un s U
theorem un_len (s : List ByteArray) : ∀ U : List ByteArray, un s U ≤ U.length
  | [] => by simp [un]
  | u :: U => by have := un_len s U; rw [un]; split <;> simp <;> omega
theorem un_le {s t : List ByteArray} (h : ∀ x ∈ s, x ∈ t) : ∀ U : List ByteArray, un t U ≤ un s U
  | [] => by simp [un]
  | u :: U => by
    have ih := un_le h U
    rw [un, un]
    cases h1 : has s u with
    | true => rw [has_iff.2 (h u (has_iff.1 h1))]; simpa using ih
    | false => cases has t u <;> simp <;> omega
theorem un_lt {s : List ByteArray} {p : ByteArray} (hp : ¬ p ∈ s) : ∀ U : List ByteArray, p ∈ U → un (s ++ [p]) U + 1 ≤ un s U
  | [], h => by cases h
  | u :: U, h => by
    have hle := un_le (s := s) (t := s ++ [p]) (fun x hx => List.mem_append_left _ hx) U
    rw [un, un]
    by_cases e : p = u
    · subst e
      have h1 : has (s ++ [p]) p = true := has_iff.2 (by simp)
      have h2 : has s p = false := by
        cases h3 : has s p with
        | false => rfl
        | true => exact absurd (has_iff.1 h3) hp
      rw [h1, h2]; simp; omega
    · have ih := un_lt hp U ((List.mem_cons.1 h).resolve_left e)
      cases h1 : has s u with
      | true => rw [has_iff.2 (List.mem_append_left _ (has_iff.1 h1))]; simpa using ih
      | false => cases has (s ++ [p]) u <;> simp <;> omega

theorem firsts_L2 {k : Nat} {d : GRule} (hl : d.gParts.length ≤ 1048576) : ∀ (m j : Nat) (o : List ByteArray), j ≤ d.gParts.length → d.gParts.length - j < m →
    o.length + (d.gParts.length - j) ≤ 8388608 → pimpl_firsts_L2 k d m o (j : Int) = some (.done (o ++ FP (d.gParts.drop j)))
  | 0, j, o, h1, h2, h3 => by omega
  | m + 1, j, o, h1, h2, h3 => by
    have hm : d.gParts.length ≤ maxLen := by rw [maxLen_eq]; omega
    unfold pimpl_firsts_L2
    by_cases hlt : j < d.gParts.length
    · rw [if_pos (by simpa using hlt), at_lt hlt, List.drop_eq_getElem_cons hlt, FP]
      simp only [Option.bind_some]
      cases hw : d.gParts[j].gWord with
      | true => simp
      | false =>
        simp only [Bool.false_eq_true, if_false]
        rw [if_pos (by simp; omega), wr_succ hlt hm, firsts_L2 hl m (j + 1) _ (by omega) (by omega) (by simp; omega)]
        simp
    · rw [if_neg (by simpa using hlt), List.drop_of_length_le (by omega), FP, List.append_nil]
theorem n_drop {l : List GRule} {j : Nat} (h : j < l.length) : nsum nRule (l.drop j) = 1 + nRule l[j] + nsum nRule (l.drop (j + 1)) := by
  rw [List.drop_eq_getElem_cons h, nsum]
theorem firsts_L1 {k : Nat} {R : List GRule} (a : ByteArray) (hn : nsum nRule R ≤ 1048576) (hk : maxLen < k) : ∀ (m j : Nat) (o : List ByteArray), j ≤ R.length → R.length - j < m →
    o.length + nsum nRule (R.drop j) ≤ 8388608 → pimpl_firsts_L1 k R a m o (j : Int) = some (.done (o ++ FR a (R.drop j)))
  | 0, j, o, h1, h2, h3 => by omega
  | m + 1, j, o, h1, h2, h3 => by
    have hlen := nsum_len nRule R
    have hm : R.length ≤ maxLen := by rw [maxLen_eq]; omega
    have hM := maxLen_eq
    unfold pimpl_firsts_L1
    by_cases hlt : j < R.length
    · rw [n_drop hlt] at h3
      have hp := nsum_len nPart R[j].gParts
      have hp2 := nsum_mem (n := nRule) (List.getElem_mem hlt)
      have hp3 := FP_len R[j].gParts
      have hr : nRule R[j] = nsum nPart R[j].gParts := rfl
      rw [if_pos (by simpa using hlt), at_lt hlt, List.drop_eq_getElem_cons hlt, FR]
      simp only [Option.bind_some]
      rw [wr_succ hlt hm]
      cases hs : sEq R[j].gName a with
      | false =>
        rw [if_pos (by simp), if_neg (by simp), firsts_L1 a hn hk m (j + 1) o (by omega) (by omega) (by omega)]; simp
      | true =>
        have e := firsts_L2 (k := k) (d := R[j]) (by omega) k 0 o (by omega) (by omega) (by omega)
        rw [show ((0 : Nat) : Int) = 0 from rfl, List.drop_zero] at e
        rw [if_neg (by simp), if_pos rfl, e]
        simp only [Option.bind_some]
        rw [firsts_L1 a hn hk m (j + 1) _ (by omega) (by omega) (by simp only [List.length_append]; omega)]
        simp
    · rw [if_neg (by simpa using hlt), List.drop_of_length_le (by omega), FR, List.append_nil]
theorem firsts {k : Nat} {R : List GRule} (a : ByteArray) (hn : nsum nRule R ≤ 1048576) (hk : maxLen < k) : pimpl_firsts k R a = some (FR a R) := by
  have hlen := nsum_len nRule R
  have hM := maxLen_eq
  have e := firsts_L1 (k := k) (R := R) a hn hk k 0 [] (by omega) (by omega) (by rw [List.drop_zero]; simp; omega)
  rw [show ((0 : Nat) : Int) = 0 from rfl, List.drop_zero, List.nil_append] at e
  unfold pimpl_firsts
  rw [e]; rfl

/-- Names put behind others, each once. -/
def add : List ByteArray → List ByteArray → List ByteArray
  | [], o => o
  | x :: l, o => add l (if has o x then o else o ++ [x])
theorem add_mem : ∀ (l o : List ByteArray) (x : ByteArray), x ∈ add l o ↔ x ∈ l ∨ x ∈ o
  | [], o, x => by simp [add]
  | y :: l, o, x => by
    rw [add, add_mem l]
    cases h : has o y with
    | true =>
      have hy := has_iff.1 h
      rw [if_pos rfl]
      constructor
      · rintro (h | h)
        · exact .inl (List.mem_cons_of_mem _ h)
        · exact .inr h
      · rintro (h | h)
        · rcases List.mem_cons.1 h with rfl | h
          · exact .inr hy
          · exact .inl h
        · exact .inr h
    | false =>
      rw [if_neg (by simp)]
      simp only [List.mem_append, List.mem_cons, List.not_mem_nil, or_false]
      constructor
      · rintro (h | h | h)
        · exact .inl (.inr h)
        · exact .inr h
        · exact .inl (.inl h)
      · rintro ((h | h) | h)
        · exact .inr (.inr h)
        · exact .inl h
        · exact .inr (.inl h)
/-- What a list has is kept at its place. -/
theorem add_pre : ∀ (l o : List ByteArray), ∃ t, add l o = o ++ t
  | [], o => ⟨[], by simp [add]⟩
  | x :: l, o => by
    rw [add]
    obtain ⟨t, ht⟩ := add_pre l (if has o x then o else o ++ [x])
    rw [ht]
    cases has o x with
    | true => exact ⟨t, rfl⟩
    | false => exact ⟨x :: t, by simp⟩
theorem add_un {U : List ByteArray} : ∀ (l o : List ByteArray), (∀ x ∈ l, x ∈ U) → (add l o).length + un (add l o) U ≤ o.length + un o U
  | [], o, h => by simp [add]
  | x :: l, o, h => by
    rw [add]
    have ih := add_un l (if has o x then o else o ++ [x]) (fun y hy => h y (List.mem_cons_of_mem _ hy))
    cases hx : has o x with
    | true => rw [hx] at ih; simpa using ih
    | false =>
      rw [hx] at ih
      have := un_lt (has_not hx) U (h x List.mem_cons_self)
      simp only [Bool.false_eq_true, if_false, List.length_append, List.length_singleton] at ih ⊢
      omega
theorem ok_L5 {k : Nat} {J U : List ByteArray} (hJ : J.length ≤ 1048576) (hU : U.length ≤ 1048576) (hsub : ∀ x ∈ J, x ∈ U) (hk : maxLen < k) : ∀ (m j : Nat) (o : List ByteArray), j ≤ J.length → J.length - j < m → o.length + un o U ≤ 8388608 →
    pimpl_RulesOk_L5 k J m o (j : Int) = some (.done (add (J.drop j) o))
  | 0, j, o, h1, h2, h3 => by omega
  | m + 1, j, o, h1, h2, h3 => by
    have hM := maxLen_eq
    have hm : J.length ≤ maxLen := by omega
    unfold pimpl_RulesOk_L5
    by_cases hlt : j < J.length
    · rw [if_pos (by simpa using hlt), at_lt hlt, List.drop_eq_getElem_cons hlt, add]
      simp only [Option.bind_some]
      rw [scontains _ (by omega) hk, wr_succ hlt hm]
      simp only [Option.bind_some]
      cases hx : has o J[j] with
      | true => rw [if_neg (by simp), if_pos rfl, ok_L5 hJ hU hsub hk m (j + 1) o (by omega) (by omega) h3]
      | false =>
        have := un_lt (has_not hx) U (hsub _ (List.getElem_mem hlt))
        simp only [Bool.not_false, Bool.false_eq_true, if_true, if_false]
        rw [if_pos (by simp; omega), ok_L5 hJ hU hsub hk m (j + 1) _ (by omega) (by omega) (by simp; omega)]
    · rw [if_neg (by simpa using hlt), List.drop_of_length_le (by omega), add]

/-- A set of names that holds with each name what stands first in its rules. -/
def Cl (R : List GRule) (S : ByteArray → Prop) : Prop := ∀ z, S z → ∀ y ∈ FR z R, S y

theorem ok_L4 {k : Nat} {R : List GRule} (hn : nsum nRule R ≤ 1048576) (hk : maxLen < k) : ∀ (m i : Nat) (o : List ByteArray), i ≤ o.length → o.length + un o (UN R) < m + i → o.length + un o (UN R) ≤ 8388608 →
    (∀ j : Nat, j < i → ∀ x, o[j]? = some x → ∀ y ∈ FR x R, y ∈ o) →
    ∃ M, pimpl_RulesOk_L4 k R m o (i : Int) = some (.done M) ∧ (∀ x ∈ o, x ∈ M) ∧ Cl R (· ∈ M) ∧ (∀ S, Cl R S → (∀ x ∈ o, S x) → ∀ x ∈ M, S x) ∧ M.length ≤ 8388608
  | 0, i, o, h1, h2, h3, h4 => by omega
  | m + 1, i, o, h1, h2, h3, h4 => by
    have hM := maxLen_eq
    have hU := UN_len R
    unfold pimpl_RulesOk_L4
    by_cases hlt : i < o.length
    · have hFl := FR_len o[i] R
      have e := ok_L5 (k := k) (J := FR o[i] R) (U := UN R) (by omega) (by omega) (FR_sub _ R) hk k 0 o (by omega) (by omega) h3
      rw [show ((0 : Nat) : Int) = 0 from rfl, List.drop_zero] at e
      rw [if_pos (by simpa using hlt), at_lt hlt]
      simp only [Option.bind_some]
      rw [firsts _ hn hk]
      simp only [Option.bind_some]
      rw [e]
      simp only [Option.bind_some]
      rw [wr_succ (m := o.length) hlt (by omega)]
      have hau := add_un (U := UN R) (FR o[i] R) o (FR_sub _ R)
      obtain ⟨t, ht⟩ := add_pre (FR o[i] R) o
      have hal : o.length ≤ (add (FR o[i] R) o).length := by rw [ht]; simp
      obtain ⟨M, g1, g2, g3, g4, g5⟩ := ok_L4 hn hk m (i + 1) (add (FR o[i] R) o) (by omega) (by omega) (by omega) (fun j hj x hx y hy => by
        rw [add_mem]
        by_cases hji : j = i
        · subst hji
          have : x = o[j] := by
            rw [ht, List.getElem?_append_left hlt, List.getElem?_eq_getElem hlt] at hx
            cases hx; rfl
          subst this
          exact .inl hy
        · have hx' : o[j]? = some x := by rw [ht, List.getElem?_append_left (by omega)] at hx; exact hx
          exact .inr (h4 j (by omega) x hx' y hy))
      refine ⟨M, g1, fun x hx => g2 x ((add_mem _ _ _).2 (.inr hx)), g3, fun S hS hx => g4 S hS (fun x hxm => ?_), g5⟩
      rcases (add_mem _ _ _).1 hxm with h | h
      · exact hS o[i] (hx _ (List.getElem_mem hlt)) x h
      · exact hx x h
    · rw [if_neg (by simpa using hlt)]
      refine ⟨o, rfl, fun x hx => hx, fun z hz y hy => ?_, fun S hS hx => hx, by omega⟩
      obtain ⟨j, hj⟩ := List.mem_iff_getElem?.1 hz
      have := (List.getElem?_eq_some_iff.1 hj).1
      exact h4 j (by omega) z hj y hy

/-! the other way round -/
structure Post (R : List GRule) (xs seen out : List ByteArray) : Prop where
  keep : ∀ x ∈ seen, x ∈ out
  got : ∀ x ∈ xs, x ∈ out
  clo : ∀ y ∈ out, y ∈ seen ∨ ∀ z ∈ FR y R, z ∈ out
  min : ∀ S, Cl R S → (∀ x ∈ xs, S x) → ∀ y ∈ out, y ∈ seen ∨ S y
  len : out.length + un out (UN R) ≤ seen.length + un seen (UN R)
theorem Post.un_le {R : List GRule} {xs seen out : List ByteArray} (h : Post R xs seen out) : un out (UN R) ≤ un seen (UN R) := FnExactRulesOk.un_le h.keep _
theorem Post.nil (R : List GRule) (s : List ByteArray) : Post R [] s s := ⟨fun x h => h, (fun x h => by cases h), fun y h => .inl h, fun S _ _ y h => .inl h, Nat.le_refl _⟩
theorem Post.app {R : List GRule} {xs ys s t u : List ByteArray} (h : Post R xs s t) (g : Post R ys t u) : Post R (xs ++ ys) s u :=
  ⟨fun x hx => g.keep x (h.keep x hx), fun x hx => by
      rcases List.mem_append.1 hx with hx | hx
      · exact g.keep x (h.got x hx)
      · exact g.got x hx,
    fun y hy => by
      rcases g.clo y hy with hy | hy
      · rcases h.clo y hy with hy | hy
        · exact .inl hy
        · exact .inr fun z hz => g.keep z (hy z hz)
      · exact .inr hy,
    fun S hS hx y hy => by
      rcases g.min S hS (fun x hx' => hx x (List.mem_append_right _ hx')) y hy with hy | hy
      · exact h.min S hS (fun x hx' => hx x (List.mem_append_left _ hx')) y hy
      · exact .inr hy,
    Nat.le_trans g.len h.len⟩
theorem Post.old {R : List GRule} {p : ByteArray} {s : List ByteArray} (h : p ∈ s) : Post R [p] s s :=
  ⟨fun x h => h, (fun x hx => by simp at hx; subst hx; exact h), fun y h => .inl h, fun S _ _ y h => .inl h, Nat.le_refl _⟩
theorem Post.new {R : List GRule} {p : ByteArray} {s t : List ByteArray} (hp : ¬ p ∈ s) (hU : p ∈ UN R) (h : Post R (FR p R) (s ++ [p]) t) : Post R [p] s t :=
  ⟨fun x hx => h.keep x (List.mem_append_left _ hx), fun x hx => h.keep x (List.mem_append_right _ hx),
    fun y hy => by
      rcases h.clo y hy with hy | hy
      · rcases List.mem_append.1 hy with hy | hy
        · exact .inl hy
        · simp at hy; subst hy; exact .inr fun z hz => h.got z hz
      · exact .inr hy,
    fun S hS hx y hy => by
      have hSp : S p := hx p (by simp)
      rcases h.min S hS (hS p hSp) y hy with hy | hy
      · rcases List.mem_append.1 hy with hy | hy
        · exact .inl hy
        · simp at hy; subst hy; exact .inr hSp
      · exact .inr hy,
    by
      have h1 := h.len
      have h2 := un_lt hp _ hU
      simp only [List.length_append, List.length_singleton] at h1
      omega⟩

theorem left_L3 {k : Nat} {f : List GRule → ByteArray → List ByteArray → Option (List ByteArray)} {s : List ByteArray} {p : GPart} (hs : s.length ≤ maxLen) : ∀ (m j : Nat) (b : Bool), j ≤ s.length → s.length - j < m →
    pspec_l18Left_L3 k f s p m b (j : Int) = some (.done (b || has (s.drop j) p.gName))
  | 0, j, b, h1, h2 => by omega
  | m + 1, j, b, h1, h2 => by
    unfold pspec_l18Left_L3
    by_cases hlt : j < s.length
    · rw [if_pos (by simpa using hlt), wr_succ hlt hs, List.drop_eq_getElem_cons hlt]
      have hh : has (s[j] :: s.drop (j + 1)) p.gName = (sEq p.gName s[j] || has (s.drop (j + 1)) p.gName) := by unfold has; rw [List.any_cons]
      rw [hh]
      cases b with
      | true => rw [if_pos rfl, left_L3 hs m (j + 1) true (by omega) (by omega)]; simp
      | false =>
        rw [if_neg (by simp), at_lt hlt]
        simp only [Option.bind_some]
        rw [left_L3 hs m (j + 1) _ (by omega) (by omega), sEq_comm s[j] p.gName]; simp
    · rw [if_neg (by simpa using hlt), List.drop_of_length_le (by omega)]; simp [has]

theorem left_L2 {k N : Nat} {R : List GRule} {f : List GRule → ByteArray → List ByteArray → Option (List ByteArray)} (hn : nsum nRule R ≤ 1048576) (hk : maxLen < k)
    (hf : ∀ a s, un s (UN R) < N → s.length + un s (UN R) ≤ 8388608 → ∃ t, f R a s = some t ∧ Post R (FR a R) s t) {i : Nat} (hi : i < R.length) :
    ∀ (m j : Nat) (s : List ByteArray), j ≤ R[i].gParts.length → R[i].gParts.length - j < m → un s (UN R) ≤ N → s.length + un s (UN R) ≤ 8388608 →
      ∃ t, pspec_l18Left_L2 k f R (i : Int) m s (j : Int) = some (.done t) ∧ Post R (FP (R[i].gParts.drop j)) s t
  | 0, j, s, h1, h2, h3, h4 => by omega
  | m + 1, j, s, h1, h2, h3, h4 => by
    have hM := maxLen_eq
    have hp := nsum_len nPart R[i].gParts
    have hp2 := nsum_mem (n := nRule) (List.getElem_mem hi)
    have hr : nRule R[i] = nsum nPart R[i].gParts := rfl
    have hm : R[i].gParts.length ≤ maxLen := by omega
    unfold pspec_l18Left_L2
    rw [at_lt hi]
    simp only [Option.bind_some]
    by_cases hlt : j < R[i].gParts.length
    · rw [if_pos (by simpa using hlt), at_lt hlt, List.drop_eq_getElem_cons hlt, FP]
      simp only [Option.bind_some]
      cases hw : R[i].gParts[j].gWord with
      | true => rw [if_pos rfl, if_pos rfl]; exact ⟨s, rfl, Post.nil R s⟩
      | false =>
        have e := left_L3 (k := k) (f := f) (s := s) (p := R[i].gParts[j]) (by omega) k 0 false (by omega) (by omega)
        rw [show ((0 : Nat) : Int) = 0 from rfl, List.drop_zero, Bool.false_or] at e
        simp only [Bool.false_eq_true, if_false]
        rw [e, wr_succ hlt hm]
        simp only [Option.bind_some]
        cases hh : has s R[i].gParts[j].gName with
        | true =>
          simp only [Bool.not_true, Bool.false_eq_true, if_false]
          obtain ⟨t, g1, g2⟩ := left_L2 hn hk hf hi m (j + 1) s (by omega) (by omega) h3 h4
          exact ⟨t, g1, (Post.old (has_iff.1 hh)).app g2⟩
        | false =>
          have hpU : R[i].gParts[j].gName ∈ UN R := by
            have : ∀ (l : List GRule) (r : GRule), r ∈ l → ∀ q ∈ r.gParts, q.gName ∈ UN l := by
              intro l
              induction l with
              | nil => intro r hr; cases hr
              | cons z l ih =>
                intro r hr q hq
                rw [UN]
                rcases List.mem_cons.1 hr with rfl | hr
                · exact List.mem_append_left _ (List.mem_map.2 ⟨q, hq, rfl⟩)
                · exact List.mem_append_right _ (ih r hr q hq)
            exact this R R[i] (List.getElem_mem hi) _ (List.getElem_mem hlt)
          have hlt2 := un_lt (has_not hh) (UN R) hpU
          obtain ⟨t, g1, g2⟩ := hf R[i].gParts[j].gName (s ++ [R[i].gParts[j].gName]) (by omega) (by simp only [List.length_append, List.length_singleton]; omega)
          have g3 := g2.len
          have g4 := g2.un_le
          simp only [List.length_append, List.length_singleton] at g3
          obtain ⟨u, q1, q2⟩ := left_L2 hn hk hf hi m (j + 1) t (by omega) (by omega) (by omega) (by omega)
          simp only [Bool.not_false, if_true]
          rw [if_pos (by simp; omega), if_pos (by simp; omega), g1]
          simp only [Option.bind_some]
          exact ⟨u, q1, (Post.new (has_not hh) hpU g2).app q2⟩
    · rw [if_neg (by simpa using hlt), List.drop_of_length_le (by omega), FP]
      exact ⟨s, rfl, Post.nil R s⟩

theorem left_L1 {k N : Nat} {R : List GRule} {f : List GRule → ByteArray → List ByteArray → Option (List ByteArray)} (hn : nsum nRule R ≤ 1048576) (hk : maxLen < k)
    (hf : ∀ a s, un s (UN R) < N → s.length + un s (UN R) ≤ 8388608 → ∃ t, f R a s = some t ∧ Post R (FR a R) s t) (a : ByteArray) :
    ∀ (m j : Nat) (s : List ByteArray), j ≤ R.length → R.length - j < m → un s (UN R) ≤ N → s.length + un s (UN R) ≤ 8388608 →
      ∃ t, pspec_l18Left_L1 k f R a m s (j : Int) = some (.done t) ∧ Post R (FR a (R.drop j)) s t
  | 0, j, s, h1, h2, h3, h4 => by omega
  | m + 1, j, s, h1, h2, h3, h4 => by
    have hM := maxLen_eq
    have hlen := nsum_len nRule R
    have hm : R.length ≤ maxLen := by omega
    unfold pspec_l18Left_L1
    by_cases hlt : j < R.length
    · rw [if_pos (by simpa using hlt), at_lt hlt, List.drop_eq_getElem_cons hlt, FR]
      simp only [Option.bind_some]
      rw [wr_succ hlt hm]
      cases hs : sEq R[j].gName a with
      | false =>
        rw [if_pos (by simp), if_neg (by simp), List.nil_append]
        exact left_L1 hn hk hf a m (j + 1) s (by omega) (by omega) h3 h4
      | true =>
        have hp := nsum_len nPart R[j].gParts
        have hp2 := nsum_mem (n := nRule) (List.getElem_mem hlt)
        have hr : nRule R[j] = nsum nPart R[j].gParts := rfl
        obtain ⟨t, g1, g2⟩ := left_L2 hn hk hf hlt k 0 s (by omega) (by omega) h3 h4
        rw [show ((0 : Nat) : Int) = 0 from rfl] at g1
        rw [List.drop_zero] at g2
        have g3 := g2.len
        have g4 := g2.un_le
        obtain ⟨u, q1, q2⟩ := left_L1 hn hk hf a m (j + 1) t (by omega) (by omega) (by omega) (by omega)
        rw [if_neg (by simp), if_pos rfl, g1]
        simp only [Option.bind_some]
        exact ⟨u, q1, g2.app q2⟩
    · rw [if_neg (by simpa using hlt), List.drop_of_length_le (by omega), FR]
      exact ⟨s, rfl, Post.nil R s⟩

theorem left {R : List GRule} (hn : nsum nRule R ≤ 1048576) : ∀ (k : Nat) (a : ByteArray) (s : List ByteArray), maxLen + 1 + un s (UN R) < k → s.length + un s (UN R) ≤ 8388608 → ∃ t, pspec_l18Left k R a s = some t ∧ Post R (FR a R) s t
  | 0, a, s, h, _ => by omega
  | k + 1, a, s, h, h2 => by
    have hM := maxLen_eq
    have hlen := nsum_len nRule R
    obtain ⟨t, g1, g2⟩ := left_L1 (k := k) (N := un s (UN R)) (f := pspec_l18Left k) hn (by omega) (fun a s' hs' h3 => left hn k a s' (by omega) h3) a k 0 s (by omega) (by omega) (Nat.le_refl _) h2
    rw [show ((0 : Nat) : Int) = 0 from rfl] at g1
    rw [List.drop_zero] at g2
    unfold pspec_l18Left
    rw [g1]
    exact ⟨t, rfl, g2⟩

theorem spec_L4 {k : Nat} {J : List ByteArray} {R : List GRule} {i : Nat} (hi : i < R.length) (hJ : J.length ≤ maxLen) : ∀ (m j : Nat), j ≤ J.length → J.length - j < m →
    pspec_RulesOk_L4 k J R (i : Int) m (j : Int) = some (if has (J.drop j) R[i].gName then .ret false else .done ())
  | 0, j, h1, h2 => by omega
  | m + 1, j, h1, h2 => by
    unfold pspec_RulesOk_L4
    by_cases hlt : j < J.length
    · rw [if_pos (by simpa using hlt), at_lt hlt, at_lt hi, List.drop_eq_getElem_cons hlt]
      simp only [Option.bind_some]
      have hh : has (J[j] :: J.drop (j + 1)) R[i].gName = (sEq R[i].gName J[j] || has (J.drop (j + 1)) R[i].gName) := by unfold has; rw [List.any_cons]
      rw [hh, sEq_comm J[j] R[i].gName, wr_succ hlt hJ]
      cases sEq R[i].gName J[j] with
      | true => simp
      | false => rw [if_neg (by simp), spec_L4 hi hJ m (j + 1) (by omega) (by omega)]; simp
    · rw [if_neg (by simpa using hlt), List.drop_of_length_le (by omega)]; simp [has]

/-- Both find alike whether a name leads to itself. -/
theorem both_L3 {k : Nat} {R : List GRule} (hn : nsum nRule R ≤ 1048576) (hk : maxLen + 1099511627776 < k) : ∀ (m j : Nat), j ≤ R.length → R.length - j < m →
    ∃ o, pspec_RulesOk_L3 k R m (j : Int) = some o ∧ pimpl_RulesOk_L3 k R m (j : Int) = some o
  | 0, j, h1, h2 => by omega
  | m + 1, j, h1, h2 => by
    have hk' : maxLen < k := Nat.lt_of_le_of_lt (Nat.le_add_right _ _) hk
    have hk2 : ∀ q : Nat, q ≤ 1048576 → maxLen + 1 + q < k := fun q hq => by omega
    have hk3 : ∀ q : Nat, q ≤ 8388608 → q < k := fun q hq => by have := maxLen_eq; omega
    have hk4 : ∀ q : Nat, q ≤ 8388608 → q ≤ maxLen := fun q hq => by have := maxLen_eq; omega
    have hk0 := hk
    clear hk
    have hlen := nsum_len nRule R
    have hU := UN_len R
    have hm : R.length ≤ maxLen := hk4 _ (by omega)
    unfold pspec_RulesOk_L3 pimpl_RulesOk_L3
    by_cases hlt : j < R.length
    · rw [if_pos (by simpa using hlt), if_pos (by simpa using hlt), at_lt hlt]
      simp only [Option.bind_some]
      have hu0 := un_len [] (UN R)
      obtain ⟨t, g1, g2⟩ := left hn k R[j].gName [] (hk2 _ (Nat.le_trans hu0 (Nat.le_trans hU hn))) (by simp only [List.length_nil, Nat.zero_add]; exact Nat.le_trans hu0 (Nat.le_trans hU (Nat.le_trans hn (by decide))))
      have hFl := FR_len R[j].gName R
      have hu1 := un_len (FR R[j].gName R) (UN R)
      have hb : (FR R[j].gName R).length + un (FR R[j].gName R) (UN R) ≤ 2097152 := Nat.le_trans (Nat.add_le_add (Nat.le_trans hFl hn) (Nat.le_trans hu1 (Nat.le_trans hU hn))) (by decide)
      obtain ⟨M, q1, q2, q3, q4, q5⟩ := ok_L4 (k := k) hn hk' k 0 (FR R[j].gName R) (Nat.zero_le _) (hk3 _ (Nat.le_trans hb (by decide))) (Nat.le_trans hb (by decide)) (fun j hj => absurd hj (Nat.not_lt_zero j))
      have hlt3 := g2.len
      simp only [List.length_nil, Nat.zero_add] at hlt3
      have ht1 : t.length ≤ 8388608 := Nat.le_trans (Nat.le_add_right _ _) (Nat.le_trans hlt3 (Nat.le_trans hu0 (Nat.le_trans hU (Nat.le_trans hn (by decide)))))
      have hcl : Cl R (· ∈ t) := fun z hz y hy => by
        rcases g2.clo z hz with h | h
        · cases h
        · exact h y hy
      have hsame : ∀ x, x ∈ t ↔ x ∈ M := fun x => ⟨fun hx => by
          rcases g2.min (· ∈ M) q3 (fun y hy => q2 y hy) x hx with h | h
          · cases h
          · exact h, fun hx => q4 (· ∈ t) hcl (fun y hy => g2.got y hy) x hx⟩
      have hhas : has M R[j].gName = has t R[j].gName := by
        cases h1 : has M R[j].gName with
        | true => exact (has_iff.2 ((hsame _).2 (has_iff.1 h1))).symm
        | false =>
          cases h2 : has t R[j].gName with
          | false => rfl
          | true => rw [has_iff.2 ((hsame _).1 (has_iff.1 h2))] at h1; cases h1
      have e4 := spec_L4 (k := k) (J := t) hlt (hk4 _ ht1) k 0 (Nat.zero_le _) (hk3 _ (Nat.le_trans (Nat.sub_le _ _) ht1))
      rw [show ((0 : Nat) : Int) = 0 from rfl] at e4 q1
      rw [List.drop_zero] at e4
      rw [firsts _ hn hk', g1]
      simp only [Option.bind_some]
      rw [e4, q1]
      simp only [Option.bind_some]
      rw [scontains _ (hk4 _ q5) hk', hhas, wr_succ hlt hm]
      cases has t R[j].gName with
      | true => exact ⟨_, rfl, rfl⟩
      | false => exact both_L3 hn hk0 m (j + 1) hlt (by clear hu0 hu1 hb hlt3 hFl; omega)
    · rw [if_neg (by simpa using hlt), if_neg (by simpa using hlt)]
      exact ⟨_, rfl, rfl⟩

theorem both_L2 {k : Nat} {R : List GRule} (hR : okL GRule.ok R) (hk : maxLen < k) {i : Nat} (hi : i < R.length) : ∀ (m j : Nat), j ≤ R[i].gParts.length → R[i].gParts.length - j < m →
    ∃ o, pspec_RulesOk_L2 k R (i : Int) m (j : Int) = some o ∧ pimpl_RulesOk_L2 k R[i] m (j : Int) = some o
  | 0, j, h1, h2 => by omega
  | m + 1, j, h1, h2 => by
    have hp := (hR.2 _ (List.getElem_mem hi)).2
    unfold pspec_RulesOk_L2 pimpl_RulesOk_L2
    rw [at_lt hi]
    simp only [Option.bind_some]
    by_cases hlt : j < R[i].gParts.length
    · obtain ⟨b, e1, e2⟩ := names (k := k) (s := R[i].gParts[j].gName) (hp.2 _ (List.getElem_mem hlt)).2 hk
      rw [if_pos (by simpa using hlt), if_pos (by simpa using hlt), at_lt hlt]
      simp only [Option.bind_some, e1, e2]
      rw [wr_succ hlt hp.1]
      cases b with
      | false => exact ⟨_, rfl, rfl⟩
      | true => exact both_L2 hR hk hi m (j + 1) (by omega) (by omega)
    · rw [if_neg (by simpa using hlt), if_neg (by simpa using hlt)]
      exact ⟨_, rfl, rfl⟩
theorem both_L1 {k : Nat} {R : List GRule} (hR : okL GRule.ok R) (hk : maxLen < k) : ∀ (m j : Nat), j ≤ R.length → R.length - j < m →
    ∃ o, pspec_RulesOk_L1 k R m (j : Int) = some o ∧ pimpl_RulesOk_L1 k R m (j : Int) = some o
  | 0, j, h1, h2 => by omega
  | m + 1, j, h1, h2 => by
    unfold pspec_RulesOk_L1 pimpl_RulesOk_L1
    by_cases hlt : j < R.length
    · obtain ⟨b, e1, e2⟩ := names (k := k) (s := R[j].gName) (hR.2 _ (List.getElem_mem hlt)).1 hk
      have hp := (hR.2 _ (List.getElem_mem hlt)).2
      rw [if_pos (by simpa using hlt), if_pos (by simpa using hlt), at_lt hlt]
      simp only [Option.bind_some, e1, e2]
      rw [wr_succ hlt hR.1]
      cases b with
      | false => exact ⟨_, rfl, rfl⟩
      | true =>
        by_cases h4 : (R[j].gParts.length : Int) > 4
        · simp only [Bool.not_true, Bool.false_eq_true, if_false]
          rw [if_pos (by simpa using h4), if_pos (by simpa using h4)]
          exact ⟨_, rfl, rfl⟩
        · obtain ⟨o, g1, g2⟩ := both_L2 hR hk hlt k 0 (by omega) (by have := hp.1; omega)
          rw [show ((0 : Nat) : Int) = 0 from rfl] at g1 g2
          simp only [Bool.not_true, Bool.false_eq_true, if_false]
          rw [if_neg (by simpa using h4), if_neg (by simpa using h4), g1, g2]
          simp only [Option.bind_some]
          cases o with
          | ret r => exact ⟨_, rfl, rfl⟩
          | done u => exact both_L1 hR hk m (j + 1) (by omega) (by omega)
    · rw [if_neg (by simpa using hlt), if_neg (by simpa using hlt)]
      exact ⟨_, rfl, rfl⟩

theorem same {k : Nat} {R : List GRule} (hR : okL GRule.ok R) (hn : nsum nRule R ≤ 1048576) (hk : maxLen + 1099511627776 < k) : ∃ b, pspec_RulesOk k R = some b ∧ pimpl_RulesOk k R = some b := by
  have hM := maxLen_eq
  have hlen := nsum_len nRule R
  unfold pspec_RulesOk pimpl_RulesOk
  by_cases h : (R.length : Int) > 12
  · rw [if_pos (by simpa using h), if_pos (by simpa using h)]; exact ⟨_, rfl, rfl⟩
  · obtain ⟨o, g1, g2⟩ := both_L1 (k := k) hR (Nat.lt_of_le_of_lt (Nat.le_add_right _ _) hk) k 0 (by omega) (by omega)
    obtain ⟨o2, q1, q2⟩ := both_L3 (k := k) hn hk k 0 (by omega) (by omega)
    rw [show ((0 : Nat) : Int) = 0 from rfl] at g1 g2 q1 q2
    rw [if_neg (by simpa using h), if_neg (by simpa using h), g1, g2]
    simp only [Option.bind_some]
    cases o with
    | ret r => exact ⟨_, rfl, rfl⟩
    | done u =>
      simp only []
      rw [q1, q2]
      simp only [Option.bind_some]
      cases o2 with
      | ret r => exact ⟨_, rfl, rfl⟩
      | done u => exact ⟨_, rfl, rfl⟩

theorem law (l : List GRule) (hx : okL GRule.ok l) : ∃ k, plaws_FnExactRulesOk k l = some true := by
  obtain ⟨k, hk⟩ : ∃ k, maxLen + 4 * nsum nRule l + 1099511627776 < k := ⟨_, Nat.lt_succ_self _⟩
  refine ⟨k, ?_⟩
  have hm : maxLen = 9223372036854775807 := maxLen_eq
  have hH : Huge = 1152921504606846976 := rfl
  have hw : maxLen + 2 * nsum nRule l + 2 < k := by omega
  unfold plaws_FnExactRulesOk
  obtain ⟨r, e1, h2, h3⟩ := szRuleS (k := k) hw hx 1048576 (by omega) (by unfold Small; omega)
  rw [e1]
  simp only [Option.bind_some]
  by_cases hr : r < 0
  · rw [if_pos (by simpa using hr)]
  rw [if_neg (by simpa using hr)]
  have hn : nsum nRule l ≤ 1048576 := by omega
  have t0 := toRuleS (k := k) hw hn
  obtain ⟨b, e2, e3⟩ := same hx hn (k := k) (by omega)
  have q2 := eqRuleS (k := k) (l := l) hw (by omega)
  simp only [t0, e2, e3, q2, Option.bind_some, beq_self_eq_true, Bool.not_true, Bool.false_eq_true, if_false]
end FnExactRulesOk
end Go.Proofs.Ytjgagbajgdmocaa

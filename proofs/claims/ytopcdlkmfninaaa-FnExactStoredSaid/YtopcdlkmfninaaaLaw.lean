/- The law, plainly. -/
import Derived.Test.YtopcdlkmfninaaaFn
set_option linter.unusedVariables false
set_option linter.unusedSimpArgs false
namespace Go.Proofs.Ytopcdlkmfninaaa
open Go.RowKit Go.Bv
namespace FnExactStored
/-- Room for the marks. -/
theorem markText_loop (k : Nat) : ∀ (j m : Nat) (b : Int) (e : ByteArray), j < m → 0 ≤ b → b < 2 ^ j → j ≤ 61 → e.size + j ≤ 1000 →
    ∃ s, plaws_markText_L1 k m b e = some (.done s) ∧ s.size ≤ 1000
  | j, 0, b, e, h1, _, _, _, _ => by omega
  | 0, m + 1, b, e, h1, h2, h3, h4, h5 => by
    unfold plaws_markText_L1
    rw [if_neg (by simp at h3 ⊢; omega)]
    exact ⟨e, rfl, by omega⟩
  | j + 1, m + 1, b, e, h1, h2, h3, h4, h5 => by
    unfold plaws_markText_L1
    by_cases hb : b > 0
    · have hp : (2 : Int) ^ (j + 1) = 2 * 2 ^ j := by rw [Int.pow_succ]; omega
      have hj : (2 : Int) ^ j ≤ 2 ^ 61 := by
        have : (2 : Nat) ^ j ≤ 2 ^ 61 := Nat.pow_le_pow_right (by omega) (by omega)
        exact_mod_cast this
      have hq : Int.tdiv b 10 = b / 10 := Int.tdiv_eq_ediv_of_nonneg h2
      have hs : (strOfNums [wr.u8 (wr.i64 (48 + (Int.tmod b 10)))]).size = 1 := rfl
      rw [if_pos (by simpa using hb), if_pos (by omega), if_pos (by unfold sumOk; rw [hs]; omega), if_pos (by omega), hq, wr_i64 (by omega) (by omega)]
      exact markText_loop k j m (b / 10) _ (by omega) (by omega) (by omega) (by omega) (by rw [ByteArray.size_append, hs]; omega)
    · rw [if_neg (by simpa using hb)]; exact ⟨e, rfl, by omega⟩

theorem markText {k : Nat} (hk : maxLen < k) (b : Int) (h0 : 0 ≤ b) (h1 : b ≤ Huge) : ∃ s, plaws_markText k b = some s := by
  unfold plaws_markText
  by_cases hb : b ≤ 0
  · rw [if_pos (by simpa using hb)]; exact ⟨_, rfl⟩
  · rw [if_neg (by simpa using hb)]
    rw [maxLen_eq] at hk
    have hH : Huge = 1152921504606846976 := rfl
    have hp : (2 : Int) ^ 61 = 2305843009213693952 := by decide
    obtain ⟨s, h2, h3⟩ := markText_loop k 61 k b (bs []) (by omega) h0 (by rw [hp]; omega) (by omega) (by have : (bs []).size = 0 := rfl; omega)
    rw [h2]
    simp only [Option.bind_some]
    rw [if_pos (by unfold sumOk; have : (bs [109]).size = 1 := rfl; omega)]
    exact ⟨_, rfl⟩
def nFile (x : GFile) : Nat := 0

theorem szFile {k : Nat} {x : GFile} (hw : maxLen + 2 * (nFile x) + 2 < k) (hx : x.ok) (b : Int) (h0 : 0 ≤ b) (h1 : b ≤ Small) : ∃ r, plaws_szFile k x b = some r ∧ -1 ≤ r ∧ (0 ≤ r → r + (nFile x : Int) ≤ b) := by
  unfold nFile at *
  unfold plaws_szFile
  have hS : Small = 1048576 := rfl
  have hs1 : x.gName.size ≤ 9223372036854775807 := by have := hx.1; unfold okFs at this; rw [maxLen_eq] at this; exact this
  have hr1 : wr.i64 (b - (x.gName.size : Int)) = (b - (x.gName.size : Int)) := wr_i64 (by omega) (by omega)
  rw [hr1]
  by_cases c1 : (b - (x.gName.size : Int)) < 0
  · rw [if_pos (by simpa using c1)]; exact ⟨_, rfl, by omega, by omega⟩
  rw [if_neg (by simpa using c1)]
  have hs2 : x.gText.size ≤ 9223372036854775807 := by have := hx.2; unfold okFs at this; rw [maxLen_eq] at this; exact this
  have hr2 : wr.i64 ((b - (x.gName.size : Int)) - (x.gText.size : Int)) = ((b - (x.gName.size : Int)) - (x.gText.size : Int)) := wr_i64 (by omega) (by omega)
  rw [hr2]
  by_cases c2 : ((b - (x.gName.size : Int)) - (x.gText.size : Int)) < 0
  · rw [if_pos (by simpa using c2)]; exact ⟨_, rfl, by omega, by omega⟩
  rw [if_neg (by simpa using c2)]
  exact ⟨_, rfl, by omega, fun h => by omega⟩

theorem toFile {k : Nat} {x : GFile} (hw : maxLen + 2 * (nFile x) + 2 < k) (hx : nFile x ≤ 1048576) : plaws_toFile k x = some x := by
  unfold nFile at *
  unfold plaws_toFile
  rfl

theorem eqFile {k : Nat} {x : GFile} (hw : maxLen + 2 * (nFile x) + 2 < k) (hx : nFile x ≤ Huge) : plaws_eqFile k x x = some true := by
  unfold nFile at *
  unfold plaws_eqFile
  simp [sEq_refl]

theorem szFileS {k : Nat} {l : List GFile} (hw : maxLen + 2 * (nsum nFile l) + 2 < k) (hl : okL (GFile.ok) l) (b : Int) (h0 : 0 ≤ b) (h1 : b ≤ Small) : ∃ r, plaws_szFileS k l b = some r ∧ -1 ≤ r ∧ (0 ≤ r → r + (nsum nFile l : Int) ≤ b) := by
  exact sz2 (f := plaws_szFile k) (L := plaws_szFileS_L1 k l) hl.1 (fun x hx b h0 h1 => by have := nsum_mem (n := nFile) hx; exact szFile (by omega) (hl.2 x hx) b h0 h1) (fun m b i => rfl) (by omega) b h0 h1

theorem toFileS {k : Nat} {l : List GFile} (hw : maxLen + 2 * (nsum nFile l) + 2 < k) (hl : nsum nFile l ≤ 1048576) : plaws_toFileS k l = some l := by
  have := nsum_len nFile l
  have h := to2 (f := plaws_toFile k) (L := plaws_toFileS_L1 k l) (by omega) (fun x hx => by have := nsum_mem (n := nFile) hx; exact toFile (by omega) (by omega)) (fun m i o => rfl) (k := k) (by omega) (GFile.mk (bs []) (bs []))
  unfold plaws_toFileS
  rw [if_pos h.1, h.2]; rfl

theorem plaws_toFileS_dd : @plaws_toFileS_d = @plaws_toFileS := by kernel_rfl

theorem eqFileS {k : Nat} {l : List GFile} (hw : maxLen + 2 * (nsum nFile l) + 2 < k) (hl : nsum nFile l ≤ Huge) : plaws_eqFileS k l l = some true := by
  have := nsum_len nFile l
  exact eq2 (f := plaws_eqFile k) (L := plaws_eqFileS_L1 k l l) (by omega) (fun x hx => by have := nsum_mem (n := nFile) hx; exact eqFile (by omega) (by omega)) (fun m i => rfl) (k := k) (by omega)

theorem markFileS {k : Nat} {l : List GFile} (hw : maxLen + 2 * (nsum nFile l) + 2 < k) (b : Int) (h1 : 1 ≤ b) (h2 : b + 16 * (nsum nFile l : Int) ≤ Huge) :
    ∃ l' c, plaws_markFileS k l b = some (l', c) ∧ plaws_heldFileS k l' b = some c ∧ b ≤ c ∧ c ≤ b + 16 * (nsum nFile l : Int) := by
  have hm : maxLen = 9223372036854775807 := maxLen_eq
  have hH : Huge = 1152921504606846976 := rfl
  have h3 : (if (3 : Int) ≠ 0 then True else False) = True := by decide
  have hlen := nsum_len nFile l
  have key := mark2 (n := nFile) (ok := fun x => maxLen + 2 * (nFile x) + 2 < k)
    (good := fun b x c => 1 ≤ b ∧ c ≤ Huge ∧ c = (b + 2) ∧ plaws_markText k b = some x.gName ∧ plaws_markText k (b + 1) = some x.gText)
    (L := plaws_markFileS_L1 k) (H := plaws_heldFileS_L1 k)
    (fun m b l => by unfold plaws_markFileS_L1; rw [if_neg (by simp)])
    (fun m b j l x hx hj hat h1 h2 => by
      try unfold nFile at *
      obtain ⟨s1, t1⟩ := markText (k := k) (by omega) b (by omega) (by omega)
      obtain ⟨s2, t2⟩ := markText (k := k) (by omega) (b + 1) (by omega) (by omega)
      refine ⟨(GFile.mk s1 s2), (b + 2), ⟨h1, (by omega), rfl, t1, t2⟩, (by omega), (by omega), fun hlt => ?_⟩
      have w0 : wr.i64 (b + 1) = b + 1 := by have := wr_i64 (x := b + 1) (by omega) (by omega); omega
      have w1 : wr.i64 (b + 1 + 1) = b + 2 := by have := wr_i64 (x := b + 1 + 1) (by omega) (by omega); omega
      have hat' : (at' l (j : Int)).isSome = true := by rw [hat]; rfl
      rw [plaws_markFileS_L1, if_pos (by simpa using hlt)]
      simp only [hat, hat', Option.isSome_some, Option.bind_some, w0, w1, t1, t2, at_set, at_set_some, cast_succ hj, List.set_set, Int.toNat_natCast, if3])
    (fun l m b => by unfold plaws_heldFileS_L1; rw [if_neg (by simp)])
    (fun l m b c j x hj hat hg hlt => by
      obtain ⟨g1, g2, g3, k0, k1⟩ := hg
      have w0 : wr.i64 (b + 1) = b + 1 := by have := wr_i64 (x := b + 1) (by omega) (by omega); omega
      have w1 : wr.i64 (b + 1 + 1) = b + 2 := by have := wr_i64 (x := b + 1 + 1) (by omega) (by omega); omega
      have hc : ∀ c : Int, 1 ≤ c → (decide (c < 0)) = false := fun c h => by simpa using (by omega : 0 ≤ c)
      rw [plaws_heldFileS_L1, if_pos (by simpa using hlt)]
      simp only [hat, Option.bind_some, w0, w1, k0, k1, bne_self_eq_false, beq_self_eq_true, sEq_refl, Bool.not_true, Bool.false_eq_true, if_false, cast_succ hj, if3, g3])
    (k := k) (by omega) l (fun x hx => by have := nsum_mem (n := nFile) hx; omega) b h1 h2
  obtain ⟨l', c, e1, e2, e3, e4⟩ := key
  refine ⟨l', c, ?_, ?_, e3, e4⟩
  · unfold plaws_markFileS; rw [e1]; rfl
  · unfold plaws_heldFileS; rw [e2]; rfl
/-- A small letter stands there. -/
def low (s : ByteArray) (i : Nat) : Prop := 97 ≤ bt s (i : Int) ∧ bt s (i : Int) ≤ 122
/-- A file's name: one to eight small letters. -/
def nameOk (s : ByteArray) : Prop := (∀ i, i < s.size → low s i) ∧ 1 ≤ s.size ∧ s.size ≤ 8
instance (s : ByteArray) (i : Nat) : Decidable (low s i) := by unfold low; infer_instance
instance (s : ByteArray) : Decidable (nameOk s) := by unfold nameOk; infer_instance

theorem l05Small (k : Nat) (s : ByteArray) (i : Nat) : pspec_l05Small k (bt s (i : Int)) = some (decide (low s i)) := by
  unfold pspec_l05Small low
  by_cases h : 97 ≤ bt s (i : Int)
  · rw [if_pos (by simpa using h)]; simp [h]
  · rw [if_neg (by simpa using h)]; simp [h]

theorem lower (k : Nat) (s : ByteArray) (i : Nat) : pimpl_lower k (bt s (i : Int)) = some (decide (low s i)) := by
  unfold pimpl_lower low
  by_cases h : 97 ≤ bt s (i : Int)
  · rw [if_pos (by simpa using h)]; simp [h]
  · rw [if_neg (by simpa using h)]; simp [h]

theorem l01In (k : Nat) (x a b : Int) : pspec_l01In k x a b = some (decide (a ≤ x ∧ x ≤ b)) := by
  unfold pspec_l01In
  by_cases h : a ≤ x
  · rw [if_pos (by simpa using h)]; simp [h]
  · rw [if_neg (by simpa using h)]; simp [h]

theorem within (k : Nat) (x a b : Int) : pimpl_within k x a b = some (decide (a ≤ x ∧ x ≤ b)) := by
  unfold pimpl_within
  by_cases h : a ≤ x
  · rw [if_pos (by simpa using h)]; simp [h]
  · rw [if_neg (by simpa using h)]; simp [h]

theorem l16Name_L1 (k : Nat) (s : ByteArray) (hs : s.size ≤ maxLen) : ∀ (m n : Nat), n ≤ s.size → s.size - n < m →
    ∃ o, pspec_l16Name_L1 k s m (n : Int) = some o ∧ (match o with | .ret r => r = false ∧ ∃ i, i < s.size ∧ ¬ low s i | .done _ => ∀ i, n ≤ i → i < s.size → low s i)
  | 0, n, h1, h2 => by omega
  | m + 1, n, h1, h2 => by
    unfold pspec_l16Name_L1
    by_cases hlt : n < s.size
    · rw [if_pos (by simpa using hlt), if_pos ⟨by omega, by simpa using hlt⟩, l05Small]
      simp only [Option.bind_some]
      by_cases hl : low s n
      · rw [if_neg (by simp [hl]), wr_succ hlt hs]
        obtain ⟨o, h3, h4⟩ := l16Name_L1 k s hs m (n + 1) (by omega) (by omega)
        refine ⟨o, h3, ?_⟩
        cases o with
        | ret r => exact h4
        | done u =>
          intro i hi1 hi2
          by_cases e : i = n
          · subst e; exact hl
          · exact h4 i (by omega) hi2
      · rw [if_pos (by simp [hl])]
        exact ⟨_, rfl, rfl, n, hlt, hl⟩
    · rw [if_neg (by simpa using hlt)]
      exact ⟨_, rfl, fun i h3 h4 => by omega⟩

theorem l16Name {k : Nat} {s : ByteArray} (hs : s.size ≤ maxLen) (hk : maxLen < k) : pspec_l16Name k s = some (decide (nameOk s)) := by
  unfold pspec_l16Name
  obtain ⟨o, h1, h2⟩ := l16Name_L1 k s hs k 0 (by omega) (by omega)
  rw [show ((0 : Nat) : Int) = 0 from rfl] at h1
  rw [h1]
  cases o with
  | ret r =>
    obtain ⟨rfl, i, h3, h4⟩ := h2
    have : ¬ nameOk s := fun h => h4 (h.1 i h3)
    simp [this]
  | done u =>
    simp only [Option.bind_some]
    rw [l01In]
    simp only [Option.bind_some]
    have : (∀ i, i < s.size → low s i) := fun i hi => h2 i (by omega) hi
    congr 1
    rw [decide_eq_decide]
    unfold nameOk
    constructor
    · intro h; exact ⟨this, by omega, by omega⟩
    · intro h; obtain ⟨_, h5, h6⟩ := h; omega

theorem run_L1 (k : Nat) (s : ByteArray) (hs : s.size ≤ maxLen) : ∀ (m n : Nat), n ≤ s.size → s.size - n < m →
    ∃ j : Nat, pimpl_run_on2_pimpl_lower_L1 k s m (n : Int) = some (.done (j : Int)) ∧ n ≤ j ∧ j ≤ s.size ∧ (∀ i, n ≤ i → i < j → low s i) ∧ (j < s.size → ¬ low s j)
  | 0, n, h1, h2 => by omega
  | m + 1, n, h1, h2 => by
    unfold pimpl_run_on2_pimpl_lower_L1
    by_cases hlt : n < s.size
    · rw [if_pos (by simpa using hlt), if_pos ⟨by omega, by simpa using hlt⟩, lower]
      simp only [Option.bind_some]
      by_cases hl : low s n
      · rw [if_pos (by simp [hl]), wr_succ hlt hs]
        obtain ⟨j, h3, h4, h5, h6, h7⟩ := run_L1 k s hs m (n + 1) (by omega) (by omega)
        refine ⟨j, h3, by omega, h5, fun i hi1 hi2 => ?_, h7⟩
        by_cases e : i = n
        · subst e; exact hl
        · exact h6 i (by omega) hi2
      · rw [if_neg (by simp [hl])]
        exact ⟨n, rfl, by omega, by omega, fun i h3 h4 => by omega, fun _ => hl⟩
    · rw [if_neg (by simpa using hlt)]
      exact ⟨n, rfl, by omega, by omega, fun i h3 h4 => by omega, fun h => absurd h hlt⟩

theorem fileName {k : Nat} {s : ByteArray} (hs : s.size ≤ maxLen) (hk : maxLen < k) : pimpl_fileName k s = some (decide (nameOk s)) := by
  unfold pimpl_fileName
  rw [within]
  simp only [Option.bind_some]
  by_cases hz : (1 : Int) ≤ (s.size : Int) ∧ (s.size : Int) ≤ 8
  · rw [if_pos (by simpa using hz)]
    unfold pimpl_run_on2_pimpl_lower
    obtain ⟨j, h1, h2, h3, h4, h5⟩ := run_L1 k s hs k 0 (by omega) (by omega)
    rw [show ((0 : Nat) : Int) = 0 from rfl] at h1
    rw [h1]
    simp only [Option.bind_some]
    congr 1
    by_cases hj : j = s.size
    · subst hj
      have : nameOk s := ⟨fun i hi => h4 i (by omega) hi, by omega, by omega⟩
      simp [this]
    · have : ¬ nameOk s := fun h => h5 (by omega) (h.1 j (by omega))
      have h6 : ((j : Int) == (s.size : Int)) = false := by
        rw [beq_eq_false_iff_ne]; omega
      rw [h6]; simp [this]
  · rw [if_neg (by simpa using hz)]
    have : ¬ nameOk s := fun h => hz ⟨by have := h.2.1; omega, by have := h.2.2; omega⟩
    simp [this]
theorem sub_one {n : Nat} (h : 0 < n) (hm : n ≤ maxLen) : wr.i64 ((n : Int) - 1) = ((n - 1 : Nat) : Int) := by
  rw [maxLen_eq] at hm
  rw [wr_i64 (by omega) (by omega)]
  omega
theorem filesOk_L1 (k : Nat) (hk : maxLen < k) (l : List GFile) (hl : l.length ≤ maxLen) (ho : ∀ x ∈ l, x.ok) : ∀ (m n : Nat), n ≤ l.length → l.length - n < m →
    ∃ o, pspec_FilesOk_L1 k l m (n : Int) = some o ∧ pimpl_FilesOk_L1 k l m (n : Int) = some o
  | 0, n, h1, h2 => by omega
  | m + 1, n, h1, h2 => by
    unfold pspec_FilesOk_L1 pimpl_FilesOk_L1
    by_cases hlt : n < l.length
    · have hx := ho _ (List.getElem_mem hlt)
      have ih := filesOk_L1 k hk l hl ho m (n + 1) (by omega) (by omega)
      have hd : decide ((n : Int) < (l.length : Int)) = true := by simpa using hlt
      rw [if_pos hd, if_pos hd]
      simp only [at_lt hlt, Option.bind_some, l16Name hx.1 hk, fileName hx.1 hk, wr_succ hlt hl]
      split
      · exact ⟨_, rfl, rfl⟩
      · split
        · exact ⟨_, rfl, rfl⟩
        · split
          · rename_i hn
            have hn' : 0 < n := by simpa using hn
            rw [sub_one hn' (by omega), at_lt (show n - 1 < l.length by omega)]
            simp only [Option.bind_some]
            split
            · exact ⟨_, rfl, rfl⟩
            · exact ih
          · exact ih
    · have hd : ¬ decide ((n : Int) < (l.length : Int)) = true := by simpa using hlt
      rw [if_neg hd, if_neg hd]
      exact ⟨_, rfl, rfl⟩
theorem filesOk {k : Nat} {l : List GFile} (hl : okL GFile.ok l) (hk : maxLen < k) : ∃ b, pspec_FilesOk k l = some b ∧ pimpl_FilesOk k l = some b := by
  unfold pspec_FilesOk pimpl_FilesOk
  obtain ⟨o, h1, h2⟩ := filesOk_L1 k hk l hl.1 hl.2 k 0 (by omega) (by have := hl.1; omega)
  rw [show ((0 : Nat) : Int) = 0 from rfl] at h1 h2
  rw [h1, h2]
  cases o with
  | ret r => exact ⟨r, rfl, rfl⟩
  | done u => exact ⟨_, rfl, rfl⟩
/-- What is stored, in its place. -/
def put (l : List GFile) (n t : ByteArray) (p : Nat) : List GFile :=
  match l[p]? with
  | some x => l.take p ++ [GFile.mk n t] ++ (if sEq x.gName n = true then l.drop (p + 1) else l.drop p)
  | none => l ++ [GFile.mk n t]
theorem tail_L1 {k : Nat} {l : List GFile} {n t : ByteArray} (hl : l.length ≤ 1048576) : ∀ (m j : Nat) (o : List GFile), j ≤ l.length → l.length - j < m → o.length ≤ j + 1 → pspec_Stored_L1 k l n t m o true (j : Int) = some (.done (o ++ l.drop j, true))
  | 0, j, o, h1, h2, h3 => by omega
  | m + 1, j, o, h1, h2, h3 => by
    have hM := maxLen_eq
    rw [pspec_Stored_L1]
    by_cases hlt : j < l.length
    · rw [if_pos (by simpa using hlt), if_neg (by decide)]
      unfold pspec_Stored_J2
      rw [if_neg (by decide), at_lt hlt, Option.bind_some, if_pos (by simp only [List.length_cons, List.length_nil]; omega), wr_succ hlt (by omega), tail_L1 hl m (j + 1) _ (by omega) (by omega) (by simp only [List.length_append, List.length_cons, List.length_nil]; omega), List.drop_eq_getElem_cons hlt]
      simp
    · rw [if_neg (by simpa using hlt), List.drop_of_length_le (by omega)]; simp
theorem both_L1 {k : Nat} {l : List GFile} {n t : ByteArray} (hl : l.length ≤ 1048576) : ∀ (m j : Nat), j ≤ l.length → l.length - j < m →
    ∃ p, pimpl_Stored_L1 k l n m (j : Int) = some (.done ((p : Nat) : Int)) ∧ p ≤ l.length ∧ pspec_Stored_L1 k l n t m (l.take j) false (j : Int) = some (.done (if p < l.length then (put l n t p, true) else (l, false)))
  | 0, j, h1, h2 => by omega
  | m + 1, j, h1, h2 => by
    have hM := maxLen_eq
    rw [pspec_Stored_L1, pimpl_Stored_L1]
    by_cases hlt : j < l.length
    · have hd : decide ((j : Int) < (l.length : Int)) = true := by simpa using hlt
      rw [if_pos hd, if_pos hd, if_pos (by decide), at_lt hlt, Option.bind_some, Option.bind_some]
      have tl : (l.take j).length = j := by rw [List.length_take]; omega
      cases hs : sLt l[j].gName n with
      | true =>
        rw [if_pos rfl]
        unfold pspec_Stored_J2
        rw [if_neg (by decide), at_lt hlt, Option.bind_some, if_pos (by simp only [List.length_cons, List.length_nil]; omega), wr_succ hlt (by omega), ← List.take_succ_eq_append_getElem hlt]
        exact both_L1 hl m (j + 1) (by omega) (by omega)
      | false =>
        rw [if_neg (by decide)]
        refine ⟨j, rfl, by omega, ?_⟩
        unfold pspec_Stored_J2
        rw [if_pos (by decide), if_pos (by simp only [List.length_cons, List.length_nil]; omega), at_lt hlt, Option.bind_some, if_pos hlt]
        unfold put
        rw [List.getElem?_eq_getElem hlt]
        simp only
        cases he : sEq l[j].gName n with
        | true =>
          rw [if_pos rfl, if_pos rfl, wr_succ hlt (by omega), tail_L1 hl m (j + 1) _ (by omega) (by omega) (by simp only [List.length_append, List.length_cons, List.length_nil]; omega)]
        | false =>
          rw [if_neg (by decide), if_neg (by decide), Option.bind_some, if_pos (by simp only [List.length_append, List.length_cons, List.length_nil]; omega), wr_succ hlt (by omega), tail_L1 hl m (j + 1) _ (by omega) (by omega) (by simp only [List.length_append, List.length_cons, List.length_nil]; omega), List.drop_eq_getElem_cons hlt]
          simp
    · have hd : ¬ decide ((j : Int) < (l.length : Int)) = true := by simpa using hlt
      rw [if_neg hd, if_neg hd]
      refine ⟨j, rfl, h1, ?_⟩
      rw [if_neg hlt, List.take_of_length_le (by omega)]
theorem put_len {l : List GFile} {n t : ByteArray} {p : Nat} (hp : p ≤ l.length) : (put l n t p).length ≤ l.length + 1 := by
  unfold put
  split
  · rename_i x hx
    split <;> simp only [List.length_append, List.length_cons, List.length_nil, List.length_take, List.length_drop] <;> omega
  · simp
theorem put_mem {l : List GFile} {n t : ByteArray} {p : Nat} {x : GFile} (h : x ∈ put l n t p) : x ∈ l ∨ x = GFile.mk n t := by
  unfold put at h
  split at h
  · rcases List.mem_append.1 h with h | h
    · rcases List.mem_append.1 h with h | h
      · exact .inl (List.mem_of_mem_take h)
      · exact .inr (List.mem_singleton.1 h)
    · split at h <;> exact .inl (List.mem_of_mem_drop h)
  · rcases List.mem_append.1 h with h | h
    · exact .inl h
    · exact .inr (List.mem_singleton.1 h)
theorem stored {k : Nat} {l : List GFile} {n t : ByteArray} (hl : okL GFile.ok l) (hn : okFs n) (ht : okFs t) (hs : l.length ≤ 1048576) (hk : maxLen < k) :
    ∃ r : List GFile × Bool, pspec_Stored k l n t = some r ∧ pimpl_Stored k l n t = some r ∧ r.1.length ≤ l.length + 1 ∧ (∀ x ∈ r.1, x ∈ l ∨ x = GFile.mk n t) ∧
      (∃ p, p ≤ l.length ∧ ∃ b1 b2, pimpl_FilesOk k (put l n t p) = some b1 ∧ pimpl_FilesOk k l = some b2 ∧ r = (if b1 = true ∧ b2 = true then (put l n t p, true) else (l, false)) ∧ pimpl_Stored_L1 k l n k 0 = some (.done (p : Int))) := by
  have hM := maxLen_eq
  obtain ⟨p, e1, hp, e2⟩ := both_L1 (k := k) (n := n) (t := t) hs k 0 (by omega) (by omega)
  rw [show ((0 : Nat) : Int) = 0 from rfl, List.take_zero] at e2
  rw [show ((0 : Nat) : Int) = 0 from rfl] at e1
  have hpl := put_len (n := n) (t := t) hp
  have hpo : okL GFile.ok (put l n t p) := ⟨by omega, fun x hx => by
    rcases put_mem hx with hx | rfl
    · exact hl.2 x hx
    · exact ⟨hn, ht⟩⟩
  obtain ⟨b1, f1, f2⟩ := filesOk hpo hk
  obtain ⟨b2, f3, f4⟩ := filesOk hl hk
  refine ⟨if b1 = true ∧ b2 = true then (put l n t p, true) else (l, false), ?_, ?_, ?_, ?_, p, hp, b1, b2, f2, f4, rfl, e1⟩
  · have J3 : pspec_Stored_J3 k l (put l n t p) = some (if b1 = true ∧ b2 = true then (put l n t p, true) else (l, false)) := by
      unfold pspec_Stored_J3 pspec_Stored_J4
      rw [f1, f3, Option.bind_some, Option.bind_some]
      have : ([] : List GFile).length + l.length ≤ 1073741824 := by simp only [List.length_nil]; omega
      cases b1 <;> cases b2 <;> simp [this] <;> omega
    unfold pspec_Stored
    rw [e2, Option.bind_some]
    by_cases hlt : p < l.length
    · simp only [if_pos hlt]
      rw [if_neg (by decide)]
      exact J3
    · simp only [if_neg hlt]
      rw [if_pos (by decide), if_pos (by simp only [List.length_cons, List.length_nil]; omega)]
      have : put l n t p = l ++ [GFile.mk n t] := by unfold put; rw [List.getElem?_eq_none (by omega)]
      rw [← this]; exact J3
  · have J2 : pimpl_Stored_J2 k l (put l n t p) = some (if b1 = true then (put l n t p, true) else (l, false)) := by
      unfold pimpl_Stored_J2
      rw [f2, Option.bind_some]
      have : ([] : List GFile).length + l.length ≤ 1073741824 := by simp only [List.length_nil]; omega
      cases b1 <;> simp [this] <;> omega
    have ins : ∀ q : Nat, q = p → (∀ x, l[p]? = some x → sEq x.gName n = false) → pslices_Insert___impl_File_impl_File_ k l (q : Int) [GFile.mk n t] = some (put l n t p) := by
      intro q hq hx
      subst hq
      unfold pslices_Insert___impl_File_impl_File_
      rw [if_pos ⟨⟨by omega, by simpa using hp, by omega⟩, rfl⟩]
      unfold put
      cases h : l[q]? with
      | none =>
        have : l.length ≤ q := List.getElem?_eq_none_iff.1 h
        simp only [Int.toNat_natCast]
        rw [List.take_of_length_le this, List.drop_of_length_le this]; rfl
      | some x =>
        simp only [Int.toNat_natCast]
        rw [hx x h, if_neg (by decide), List.append_assoc]
    unfold pimpl_Stored
    rw [if_pos (by simp only [List.length_nil]; omega), f4, Option.bind_some]
    cases b2 with
    | false => rw [if_pos (by decide)]; simp
    | true =>
      rw [if_neg (by decide), e1, Option.bind_some]
      simp only
      have fin : pimpl_Stored_J2 k l (put l n t p) = some (if b1 = true ∧ True then (put l n t p, true) else (l, false)) := by rw [J2]; simp
      by_cases hlt : p < l.length
      · rw [if_pos (by simpa using hlt), at_lt hlt, Option.bind_some]
        unfold pimpl_Stored_J3
        cases he : sEq l[p].gName n with
        | true =>
          rw [if_pos rfl, at_lt hlt, Option.bind_some]
          have : l.set ((p : Int).toNat) (GFile.mk l[p].gName t) = put l n t p := by
            unfold put
            rw [List.getElem?_eq_getElem hlt]
            simp only [Int.toNat_natCast]
            rw [he, if_pos rfl, sEq_iff.1 he, List.set_eq_take_append_cons_drop, if_pos hlt]
            simp
          rw [this]; exact fin
        | false =>
          rw [if_neg (by decide), ins p rfl (fun x hx => by rw [List.getElem?_eq_getElem hlt] at hx; rw [← Option.some.inj hx]; exact he), Option.bind_some]
          exact fin
      · rw [if_neg (by simpa using hlt)]
        unfold pimpl_Stored_J3
        rw [if_neg (by decide), ins p rfl (fun x hx => by rw [List.getElem?_eq_none (by omega)] at hx; cases hx), Option.bind_some]
        exact fin
  · split
    · exact hpl
    · simp only; omega
  · split
    · exact fun x hx => put_mem hx
    · exact fun x hx => .inl hx
theorem stored_d : @pimpl_Stored_d = @pimpl_Stored := by kernel_rfl
theorem law (l : List GFile) (n t : ByteArray) (hl : okL GFile.ok l) (hn : okFs n) (ht : okFs t) : ∃ k, plaws_FnExactStored k l n t = some true := by
  obtain ⟨k, hk⟩ : ∃ k, maxLen + 2 * l.length + 1099511627776 < k := ⟨_, Nat.lt_succ_self _⟩
  refine ⟨k, ?_⟩
  have hM := maxLen_eq
  have hH : Huge = 1152921504606846976 := rfl
  have hS : Small = 1048576 := rfl
  have nl : ∀ m : List GFile, nsum nFile m = m.length := fun m => by
    induction m with
    | nil => rfl
    | cons x m ih => rw [nsum, ih, List.length_cons]; unfold nFile; omega
  unfold plaws_FnExactStored
  by_cases c1 : (n.size : Int) > 1048576
  · rw [if_pos (by simpa using c1)]
  rw [if_neg (by simpa using c1)]
  by_cases c2 : (t.size : Int) > 1048576
  · rw [if_pos (by simpa using c2)]
  rw [if_neg (by simpa using c2)]
  have nll := nl l
  obtain ⟨r, e1, h2, h3⟩ := szFileS (k := k) (l := l) (by omega) hl 1048576 (by omega) (by omega)
  rw [e1, Option.bind_some]
  by_cases hr : r < 0
  · rw [if_pos (by simpa using hr)]
  rw [if_neg (by simpa using hr)]
  have hlen : l.length ≤ 1048576 := by omega
  have t0 := toFileS (k := k) (l := l) (by omega) (by omega)
  have t1 : plaws_toFileS_d k l = some l := by rw [plaws_toFileS_dd]; exact t0
  obtain ⟨p, e2, e3, p1, p2, _⟩ := stored (k := k) (l := l) (n := n) (t := t) hl hn ht hlen (by omega)
  have e4 : pimpl_Stored_d k l n t = some p := by rw [stored_d]; exact e3
  have np := nl p.1
  obtain ⟨y, c, a1, a2, a4, a5⟩ := markFileS (k := k) (l := l) (by omega) 1 (by omega) (by omega)
  obtain ⟨z, d, b1, b2, b4, b5⟩ := markFileS (k := k) (l := p.1) (by omega) 1 (by omega) (by omega)
  have q1 := eqFileS (k := k) (l := p.1) (by omega) (by omega)
  have q2 := eqFileS (k := k) (l := l) (by omega) (by omega)
  have hc : ∀ c : Int, 1 ≤ c → (decide (c < 0)) = false := fun c h => by simpa using (by omega : 0 ≤ c)
  simp only [t0, t1, e2, e3, e4, Option.bind_some, q1, q2, a1, b1, b2, hc c (by omega), hc d (by omega), beq_self_eq_true, bne_self_eq_false, Bool.not_true, Bool.false_eq_true, if_false]
end FnExactStored
end Go.Proofs.Ytopcdlkmfninaaa

/- The law, plainly. -/
import Derived.Test.YtjgagbajgdmocaaFn
set_option linter.unusedVariables false
set_option linter.unusedSimpArgs false
namespace Go.Proofs.Ytjgagbajgdmocaa
open Go.RowKit Go.Bv
namespace FnExactHeapOk
theorem szIntS {k : Nat} {l : List Int} (hw : maxLen + 2 * (nsum (fun _ => 0) l) + 2 < k) (hl : okL (okI .i64) l) (b : Int) (h0 : 0 ≤ b) (h1 : b ≤ Small) : ∃ r, plaws_szIntS k l b = some r ∧ -1 ≤ r ∧ (0 ≤ r → r + (nsum (fun _ => 0) l : Int) ≤ b) := by
  unfold plaws_szIntS; exact sz2_flat hl.1 b h0 h1

theorem toIntS {k : Nat} {l : List Int} (hw : maxLen + 2 * (nsum (fun _ => 0) l) + 2 < k) (hl : nsum (fun _ => 0) l ≤ 1048576) : plaws_toIntS k l = some l := by
  have := nsum_len (fun _ => 0) l
  have h := to2_flat (L := plaws_toIntS_L1 k l) (by omega) (fun m i o => rfl) (k := k) (by omega) 0
  unfold plaws_toIntS
  rw [if_pos h.1, h.2]; rfl

theorem eqIntS {k : Nat} {l : List Int} (hw : maxLen + 2 * (nsum (fun _ => 0) l) + 2 < k) (hl : nsum (fun _ => 0) l ≤ Huge) : plaws_eqIntS k l l = some true := by
  have := nsum_len (fun _ => 0) l
  exact eq2_flat (ne := fun x y => x != y) (L := plaws_eqIntS_L1 k l l) (by omega) (fun x => by simp [sEq_refl]) (fun m i => rfl) (k := k) (by omega)

def nCell (x : GCell) : Nat := nsum (fun _ => 0) x.gKids

theorem szCell {k : Nat} {x : GCell} (hw : maxLen + 2 * (nCell x) + 2 < k) (hx : x.ok) (b : Int) (h0 : 0 ≤ b) (h1 : b ≤ Small) : ∃ r, plaws_szCell k x b = some r ∧ -1 ≤ r ∧ (0 ≤ r → r + (nCell x : Int) ≤ b) := by
  unfold nCell at *
  unfold plaws_szCell
  have hS : Small = 1048576 := rfl
  have hs1 : x.gName.size ≤ 9223372036854775807 := by have := hx.2.1; unfold okFs at this; rw [maxLen_eq] at this; exact this
  have hr1 : wr.i64 (b - (x.gName.size : Int)) = (b - (x.gName.size : Int)) := wr_i64 (by omega) (by omega)
  rw [hr1]
  by_cases c1 : (b - (x.gName.size : Int)) < 0
  · rw [if_pos (by simpa using c1)]; exact ⟨_, rfl, by omega, by omega⟩
  rw [if_neg (by simpa using c1)]
  obtain ⟨r2, e2, l2, u2⟩ := szIntS (k := k) (l := x.gKids) (by omega) hx.2.2.2.2 (b - (x.gName.size : Int)) (by omega) (by omega)
  rw [e2]
  simp only [Option.bind_some]
  by_cases c2 : r2 < 0
  · rw [if_pos (by simpa using c2)]; exact ⟨_, rfl, by omega, by omega⟩
  rw [if_neg (by simpa using c2)]
  exact ⟨_, rfl, by omega, fun h => by omega⟩

theorem toCell {k : Nat} {x : GCell} (hw : maxLen + 2 * (nCell x) + 2 < k) (hx : nCell x ≤ 1048576) : plaws_toCell k x = some x := by
  unfold nCell at *
  unfold plaws_toCell
  rw [toIntS (k := k) (l := x.gKids) (by omega) (by omega)]
  simp only [Option.bind_some]

theorem eqCell {k : Nat} {x : GCell} (hw : maxLen + 2 * (nCell x) + 2 < k) (hx : nCell x ≤ Huge) : plaws_eqCell k x x = some true := by
  unfold nCell at *
  unfold plaws_eqCell
  rw [eqIntS (k := k) (l := x.gKids) (by omega) (by omega)]
  simp [sEq_refl]

theorem szCellS {k : Nat} {l : List GCell} (hw : maxLen + 2 * (nsum nCell l) + 2 < k) (hl : okL (GCell.ok) l) (b : Int) (h0 : 0 ≤ b) (h1 : b ≤ Small) : ∃ r, plaws_szCellS k l b = some r ∧ -1 ≤ r ∧ (0 ≤ r → r + (nsum nCell l : Int) ≤ b) := by
  exact sz2 (f := plaws_szCell k) (L := plaws_szCellS_L1 k l) hl.1 (fun x hx b h0 h1 => by have := nsum_mem (n := nCell) hx; exact szCell (by omega) (hl.2 x hx) b h0 h1) (fun m b i => rfl) (by omega) b h0 h1

theorem toCellS {k : Nat} {l : List GCell} (hw : maxLen + 2 * (nsum nCell l) + 2 < k) (hl : nsum nCell l ≤ 1048576) : plaws_toCellS k l = some l := by
  have := nsum_len nCell l
  have h := to2 (f := plaws_toCell k) (L := plaws_toCellS_L1 k l) (by omega) (fun x hx => by have := nsum_mem (n := nCell) hx; exact toCell (by omega) (by omega)) (fun m i o => rfl) (k := k) (by omega) (GCell.mk 0 (bs []) 0 0 [])
  unfold plaws_toCellS
  rw [if_pos h.1, h.2]; rfl

theorem eqCellS {k : Nat} {l : List GCell} (hw : maxLen + 2 * (nsum nCell l) + 2 < k) (hl : nsum nCell l ≤ Huge) : plaws_eqCellS k l l = some true := by
  have := nsum_len nCell l
  exact eq2 (f := plaws_eqCell k) (L := plaws_eqCellS_L1 k l l) (by omega) (fun x hx => by have := nsum_mem (n := nCell) hx; exact eqCell (by omega) (by omega)) (fun m i => rfl) (k := k) (by omega)

def nHeap (x : GHeap) : Nat := nsum nCell x.gCells + nsum (fun _ => 0) x.gTrail

theorem szHeap {k : Nat} {x : GHeap} (hw : maxLen + 2 * (nHeap x) + 2 < k) (hx : x.ok) (b : Int) (h0 : 0 ≤ b) (h1 : b ≤ Small) : ∃ r, plaws_szHeap k x b = some r ∧ -1 ≤ r ∧ (0 ≤ r → r + (nHeap x : Int) ≤ b) := by
  unfold nHeap at *
  unfold plaws_szHeap
  have hS : Small = 1048576 := rfl
  obtain ⟨r1, e1, l1, u1⟩ := szCellS (k := k) (l := x.gCells) (by omega) hx.1 b h0 (by omega)
  rw [e1]
  simp only [Option.bind_some]
  by_cases c1 : r1 < 0
  · rw [if_pos (by simpa using c1)]; exact ⟨_, rfl, by omega, by omega⟩
  rw [if_neg (by simpa using c1)]
  obtain ⟨r2, e2, l2, u2⟩ := szIntS (k := k) (l := x.gTrail) (by omega) hx.2 r1 (by omega) (by omega)
  rw [e2]
  simp only [Option.bind_some]
  by_cases c2 : r2 < 0
  · rw [if_pos (by simpa using c2)]; exact ⟨_, rfl, by omega, by omega⟩
  rw [if_neg (by simpa using c2)]
  exact ⟨_, rfl, by omega, fun h => by omega⟩

theorem toHeap {k : Nat} {x : GHeap} (hw : maxLen + 2 * (nHeap x) + 2 < k) (hx : nHeap x ≤ 1048576) : plaws_toHeap k x = some x := by
  unfold nHeap at *
  unfold plaws_toHeap
  rw [toCellS (k := k) (l := x.gCells) (by omega) (by omega)]
  simp only [Option.bind_some]
  rw [toIntS (k := k) (l := x.gTrail) (by omega) (by omega)]
  simp only [Option.bind_some]

theorem eqHeap {k : Nat} {x : GHeap} (hw : maxLen + 2 * (nHeap x) + 2 < k) (hx : nHeap x ≤ Huge) : plaws_eqHeap k x x = some true := by
  unfold nHeap at *
  unfold plaws_eqHeap
  rw [eqCellS (k := k) (l := x.gCells) (by omega) (by omega)]
  rw [eqIntS (k := k) (l := x.gTrail) (by omega) (by omega)]
  simp [sEq_refl]
theorem l01In (k : Nat) (x a b : Int) : pspec_l01In k x a b = some (decide (a ≤ x ∧ x ≤ b)) := by
  unfold pspec_l01In
  by_cases h : a ≤ x
  · rw [if_pos (by simpa using h)]; simp [h]
  · rw [if_neg (by simpa using h)]; simp [h]

theorem within (k : Nat) (x a b : Int) : pimpl_within k x a b = some (decide (a ≤ x ∧ x ≤ b)) := by
  unfold pimpl_within
  by_cases h : a ≤ x
  · rw [if_pos (by simpa using h)]; simp [h]
  · rw [if_neg (by simpa using h)]; simp [h]
theorem follow_L1 (k : Nat) (x : GHeap) (hl : x.gCells.length ≤ 1048576) : ∀ (m n : Nat) (a : Int), n ≤ x.gCells.length + 1 → x.gCells.length + 1 - n < m →
    ∃ o, pspec_l13Follow_L1 k x.gCells m a (n : Int) = some o ∧ pimpl_follow_L1 k x m a (n : Int) = some o
  | 0, n, a, h1, h2 => by omega
  | m + 1, n, a, h1, h2 => by
    unfold pspec_l13Follow_L1 pimpl_follow_L1
    have hw : wr.i64 ((x.gCells.length : Int) + 1) = (x.gCells.length : Int) + 1 := wr_i64 (by omega) (by omega)
    have hw1 : wr.i64 ((x.gCells.length : Int) - 1) = (x.gCells.length : Int) - 1 := wr_i64 (by omega) (by omega)
    rw [hw]
    by_cases hlt : n < x.gCells.length + 1
    · have hd1 : decide ((n : Int) ≤ (x.gCells.length : Int)) = true := by simp; omega
      have hd2 : decide ((n : Int) < (x.gCells.length : Int) + 1) = true := by simp; omega
      rw [if_pos hd1, if_pos hd2]
      unfold pimpl_isCell
      rw [l01In, within, hw1]
      simp only [Option.bind_some]
      by_cases ha : 0 ≤ a ∧ a ≤ (x.gCells.length : Int) - 1
      · obtain ⟨i, rfl⟩ : ∃ i : Nat, a = (i : Int) := ⟨a.toNat, by omega⟩
        have hi : i < x.gCells.length := by omega
        have ih := follow_L1 k x hl m (n + 1) x.gCells[i].gTo (by omega) (by omega)
        have hs : wr.i64 ((n : Int) + 1) = ((n + 1 : Nat) : Int) := by rw [wr_i64 (by omega) (by omega)]; omega
        simp only [at_lt hi, Option.bind_some, hs]
        have hg : ¬ (!decide (0 ≤ ((i : Nat) : Int) ∧ ((i : Nat) : Int) ≤ (x.gCells.length : Int) - 1)) = true := by simp [ha]
        rw [if_neg hg, if_neg hg]
        split
        · exact ⟨_, rfl, rfl⟩
        · split
          · exact ⟨_, rfl, rfl⟩
          · exact ih
      · rw [if_pos (by simp only [decide_eq_false ha]; rfl), if_pos (by simp only [decide_eq_false ha]; rfl)]
        exact ⟨_, rfl, rfl⟩
    · have hd1 : ¬ decide ((n : Int) ≤ (x.gCells.length : Int)) = true := by simp; omega
      have hd2 : ¬ decide ((n : Int) < (x.gCells.length : Int) + 1) = true := by simp; omega
      rw [if_neg hd1, if_neg hd2]
      exact ⟨_, rfl, rfl⟩

theorem followBoth {k : Nat} {x : GHeap} (hx : x.gCells.length ≤ 1048576) (hk : maxLen < k) (a : Int) : ∃ r, pspec_FollowCell k x a = some r ∧ pimpl_follow k x a = some r := by
  unfold pspec_FollowCell pspec_l13Follow pimpl_follow
  obtain ⟨o, h1, h2⟩ := follow_L1 k x hx k 0 a (by omega) (by rw [maxLen_eq] at hk; omega)
  rw [show ((0 : Nat) : Int) = 0 from rfl] at h1 h2
  rw [h1, h2]
  cases o with
  | ret r => exact ⟨r, rfl, rfl⟩
  | done u => exact ⟨_, rfl, rfl⟩
/-- Is there a ref of this number? -/
def rf (l : List GCell) (v : Int) : Bool := l.any fun c => c.gKind == 1 && c.gNum == v
theorem mget_same : ∀ (l : List (Int × Int)) (k v : Int), mget (mset l k v) k = v
  | [], k, v => by simp [mset, mget]
  | p :: l, k, v => by
    rw [mset]
    by_cases h : p.1 = k
    · rw [if_pos h]; simp [mget]
    · rw [if_neg h, mget, if_neg h]; exact mget_same l k v
theorem mget_other : ∀ (l : List (Int × Int)) (k v q : Int), k ≠ q → mget (mset l k v) q = mget l q
  | [], k, v, q, h => by simp [mset, mget, h]
  | p :: l, k, v, q, h => by
    rw [mset]
    by_cases e : p.1 = k
    · rw [if_pos e, mget, mget, if_neg h, if_neg (by rw [e]; exact h)]
    · rw [if_neg e, mget, mget, mget_other l k v q h]
theorem isCell {k : Nat} {x : GHeap} (hn : x.gCells.length ≤ 60000) (a : Int) : pimpl_isCell k x a = some (decide (0 ≤ a ∧ a ≤ (x.gCells.length : Int) - 1)) := by
  unfold pimpl_isCell
  rw [within, wr_i64 (by omega) (by omega)]; rfl
theorem kids_L3 {k : Nat} {x : GHeap} {c : GCell} (hn : x.gCells.length ≤ 60000) (hc : c.gKids.length ≤ maxLen) : ∀ (m j : Nat), j ≤ c.gKids.length → c.gKids.length - j < m →
    ∃ o, pspec_HeapOk_L3 k c x m (j : Int) = some o ∧ pimpl_HeapOk_L3 k c x m (j : Int) = some o ∧ (∀ r, o = .ret r → r = false)
  | 0, j, h1, h2 => by omega
  | m + 1, j, h1, h2 => by
    unfold pspec_HeapOk_L3 pimpl_HeapOk_L3
    by_cases hlt : j < c.gKids.length
    · rw [if_pos (by simpa using hlt), if_pos (by simpa using hlt), at_lt hlt]
      simp only [Option.bind_some]
      rw [l01In, isCell hn, wr_i64 (x := (x.gCells.length : Int) - 1) (by omega) (by omega), wr_succ hlt hc]
      simp only [Option.bind_some]
      by_cases h : 0 ≤ c.gKids[j] ∧ c.gKids[j] ≤ (x.gCells.length : Int) - 1
      · rw [decide_eq_true h]
        simp only [Bool.not_true, Bool.false_eq_true, if_false]
        exact kids_L3 hn hc m (j + 1) (by omega) (by omega)
      · rw [decide_eq_false h]
        exact ⟨_, rfl, rfl, fun r e => by cases e; rfl⟩
    · rw [if_neg (by simpa using hlt), if_neg (by simpa using hlt)]
      exact ⟨_, rfl, rfl, fun r e => by cases e⟩
theorem uniq_L4 {k : Nat} {x : GHeap} {c : GCell} (hn : x.gCells.length ≤ 60000) {i : Nat} (hi : i ≤ x.gCells.length) (hc : c.gKind = 1) : ∀ (m j : Nat), j ≤ i → i - j < m →
    pspec_HeapOk_L4 k (i : Int) c x m (j : Int) = some (if rf ((x.gCells.take i).drop j) c.gNum then .ret false else .done ())
  | 0, j, h1, h2 => by omega
  | m + 1, j, h1, h2 => by
    unfold pspec_HeapOk_L4
    by_cases hlt : j < i
    · have hj : j < x.gCells.length := by omega
      have hw : wr.i64 ((j : Int) + 1) = ((j + 1 : Nat) : Int) := by rw [wr_i64 (by omega) (by omega)]; omega
      have hd : (x.gCells.take i).drop j = x.gCells[j] :: (x.gCells.take i).drop (j + 1) := by
        rw [List.drop_eq_getElem_cons (by simp; omega)]; simp
      have hr : rf (x.gCells[j] :: (x.gCells.take i).drop (j + 1)) c.gNum = ((x.gCells[j].gKind == 1 && x.gCells[j].gNum == c.gNum) || rf ((x.gCells.take i).drop (j + 1)) c.gNum) := by unfold rf; rw [List.any_cons]
      rw [if_pos (by simpa using hlt), if_pos (by simpa using hc), at_lt hj, hd, hr, hw]
      simp only [Option.bind_some]
      cases h1 : (x.gCells[j].gKind == 1) with
      | false =>
        simp only [Bool.false_eq_true, if_false, Bool.false_and, Bool.false_or]
        exact uniq_L4 hn hi hc m (j + 1) (by omega) (by omega)
      | true =>
        cases h2 : (x.gCells[j].gNum == c.gNum) with
        | true => simp
        | false =>
          simp only [Bool.false_eq_true, if_false, if_true, Bool.true_and, Bool.false_or]
          exact uniq_L4 hn hi hc m (j + 1) (by omega) (by omega)
    · rw [if_neg (by simpa using hlt), List.drop_of_length_le (by simp; omega)]; simp [rf]
theorem uniq_L4n {k : Nat} {x : GHeap} {c : GCell} (hc : ¬ c.gKind = 1) (i : Int) {m : Nat} (hm : 0 < m) : pspec_HeapOk_L4 k i c x m 0 = some (.done ()) := by
  obtain ⟨q, rfl⟩ : ∃ q, m = q + 1 := ⟨m - 1, by omega⟩
  unfold pspec_HeapOk_L4
  split
  · rw [if_neg (by simpa using hc)]
  · rfl

/-- What the count of numbers says so far. -/
def Cnt (x : GHeap) (i : Nat) (j : List (Int × Int)) : Prop := ∀ v, mget j v = if rf (x.gCells.take i) v then 1 else 0
theorem rf_snoc {x : GHeap} {i : Nat} (hi : i < x.gCells.length) (v : Int) : rf (x.gCells.take (i + 1)) v = (rf (x.gCells.take i) v || (x.gCells[i].gKind == 1 && x.gCells[i].gNum == v)) := by
  rw [List.take_succ_eq_append_getElem hi]
  unfold rf
  rw [List.any_append]; simp

theorem cells_L1 {k : Nat} {x : GHeap} (hn : x.gCells.length ≤ 60000) (hok : okL GCell.ok x.gCells) (hk : maxLen < k) : ∀ (m i : Nat) (j : List (Int × Int)), i ≤ x.gCells.length → x.gCells.length - i < m → Cnt x i j →
    ∃ o, pspec_HeapOk_L1 k x m (i : Int) = some o ∧ pimpl_HeapOk_L1 k x m (i : Int) j = some o
  | 0, i, j, h1, h2, h3 => by omega
  | m + 1, i, j, h1, h2, h3 => by
    have hM := maxLen_eq
    unfold pspec_HeapOk_L1 pimpl_HeapOk_L1
    by_cases hlt : i < x.gCells.length
    · have hw : wr.i64 ((i : Int) + 1) = ((i + 1 : Nat) : Int) := by rw [wr_i64 (by omega) (by omega)]; omega
      have hkids : x.gCells[i].gKids.length ≤ maxLen := (hok.2 _ (List.getElem_mem hlt)).2.2.2.2.1
      obtain ⟨o3, a1, a2, a3⟩ := kids_L3 (k := k) (c := x.gCells[i]) hn hkids k 0 (by omega) (by omega)
      rw [show ((0 : Nat) : Int) = 0 from rfl] at a1 a2
      obtain ⟨fo, f1, f2⟩ := followBoth (k := k) (x := x) (by omega) hk (i : Int)
      have hw1 : wr.i64 ((x.gCells.length : Int) - 1) = (x.gCells.length : Int) - 1 := wr_i64 (by omega) (by omega)
      rw [if_pos (by simpa using hlt), if_pos (by simpa using hlt), at_lt hlt]
      simp only [Option.bind_some]
      rw [l01In, within]
      simp only [Option.bind_some]
      by_cases hkd : 1 ≤ x.gCells[i].gKind ∧ x.gCells[i].gKind ≤ 4
      · rw [decide_eq_true hkd]
        simp only [Bool.not_true, Bool.false_eq_true, if_false]
        by_cases hk1 : x.gCells[i].gKind = 1
        · have hk1' : (x.gCells[i].gKind == 1) = true := by simpa using hk1
          have u4 := uniq_L4 (k := k) (c := x.gCells[i]) hn (i := i) (by omega) hk1 k 0 (by omega) (by omega)
          rw [show ((0 : Nat) : Int) = 0 from rfl, List.drop_zero] at u4
          have hj := h3 x.gCells[i].gNum
          rw [if_pos hk1', if_pos hk1', l01In, mget_same, hw1, isCell hn, f1, f2]
          simp only [Option.bind_some]
          cases hr : rf (x.gCells.take i) x.gCells[i].gNum with
          | true =>
            -- the number was met before
            rw [hr, if_pos rfl] at hj
            rw [hr, if_pos rfl] at u4
            have : wr.i64 (mget j x.gCells[i].gNum + 1) > 1 := by rw [hj]; decide
            rw [if_pos (show decide (wr.i64 (mget j x.gCells[i].gNum + 1) > 1) = true from decide_eq_true this)]
            refine ⟨.ret false, ?_, rfl⟩
            split
            · rfl
            · split
              · rfl
              · unfold pspec_HeapOk_J2
                rw [a1]
                simp only [Option.bind_some]
                cases o3 with
                | ret r =>
                  have : r = false := a3 r rfl
                  subst this; rfl
                | done u => cases u; show (pspec_HeapOk_L4 k (i : Int) x.gCells[i] x k 0).bind _ = _; rw [u4]; rfl
          | false =>
            rw [hr, if_neg (by simp)] at hj
            rw [hr, if_neg (by simp)] at u4
            have hv : wr.i64 (mget j x.gCells[i].gNum + 1) = 1 := by rw [hj]; decide
            rw [hv, if_neg (show ¬ decide ((1 : Int) > 1) = true by decide)]
            have hcnt : Cnt x (i + 1) (mset j x.gCells[i].gNum 1) := by
              intro v
              rw [rf_snoc hlt, hk1', Bool.true_and]
              by_cases hv : x.gCells[i].gNum = v
              · subst hv; rw [mget_same]; simp
              · rw [mget_other _ _ _ _ hv, h3 v]; simp [hv]
            have rest : ∃ o, pspec_HeapOk_J2 k (pspec_HeapOk_L1 k x m) x.gCells[i] x (i : Int) = some o ∧ pimpl_HeapOk_J2 k (pimpl_HeapOk_L1 k x m) x.gCells[i] x (i : Int) (mset j x.gCells[i].gNum 1) = some o := by
              unfold pspec_HeapOk_J2 pimpl_HeapOk_J2
              rw [a1, a2]
              simp only [Option.bind_some]
              cases o3 with
              | ret r => exact ⟨_, rfl, rfl⟩
              | done u =>
                cases u
                simp only [u4, Option.bind_some, hw]
                exact cells_L1 hn hok hk m (i + 1) _ (by omega) (by omega) hcnt
            obtain ⟨o, g1, g2⟩ := rest
            by_cases ht : x.gCells[i].gTo = -1
            · have hin : (-1 : Int) ≤ x.gCells[i].gTo ∧ x.gCells[i].gTo ≤ (x.gCells.length : Int) - 1 := by omega
              rw [decide_eq_true hin, if_neg (show ¬ (x.gCells[i].gTo != -1) = true by simp [ht])]
              simp only [Bool.not_true, Bool.false_eq_true, if_false]
              split
              · exact ⟨_, rfl, rfl⟩
              · exact ⟨o, g1, g2⟩
            · rw [if_pos (show (x.gCells[i].gTo != -1) = true by simpa using ht)]
              by_cases hin : (0 : Int) ≤ x.gCells[i].gTo ∧ x.gCells[i].gTo ≤ (x.gCells.length : Int) - 1
              · rw [decide_eq_true hin, decide_eq_true (show (-1 : Int) ≤ x.gCells[i].gTo ∧ x.gCells[i].gTo ≤ (x.gCells.length : Int) - 1 from ⟨by omega, hin.2⟩)]
                simp only [Bool.not_true, Bool.false_eq_true, if_false]
                split
                · exact ⟨_, rfl, rfl⟩
                · exact ⟨o, g1, g2⟩
              · rw [decide_eq_false hin, decide_eq_false (show ¬ ((-1 : Int) ≤ x.gCells[i].gTo ∧ x.gCells[i].gTo ≤ (x.gCells.length : Int) - 1) by omega)]
                exact ⟨_, rfl, rfl⟩
        · have hk1' : ¬ (x.gCells[i].gKind == 1) = true := by simpa using hk1
          have u4 := uniq_L4n (k := k) (x := x) hk1 (i : Int) (m := k) (by omega)
          rw [if_neg hk1', if_neg hk1']
          unfold pspec_HeapOk_J2 pimpl_HeapOk_J2
          rw [a1, a2]
          simp only [Option.bind_some]
          cases o3 with
          | ret r => exact ⟨_, rfl, rfl⟩
          | done u =>
            cases u
            simp only [u4, Option.bind_some, hw]
            refine cells_L1 hn hok hk m (i + 1) _ (by omega) (by omega) (fun v => ?_)
            rw [rf_snoc hlt, h3 v]
            have : (x.gCells[i].gKind == 1) = false := by simpa using hk1
            rw [this]; simp
      · rw [decide_eq_false hkd]
        exact ⟨_, rfl, rfl⟩
    · rw [if_neg (by simpa using hlt), if_neg (by simpa using hlt)]
      exact ⟨_, rfl, rfl⟩

theorem trail_L {k : Nat} {x : GHeap} (hn : x.gCells.length ≤ 60000) (ht : x.gTrail.length ≤ maxLen) : ∀ (m j : Nat), j ≤ x.gTrail.length → x.gTrail.length - j < m →
    ∃ o, pspec_HeapOk_L5 k x m (j : Int) = some o ∧ pimpl_HeapOk_L4 k x m (j : Int) = some o
  | 0, j, h1, h2 => by omega
  | m + 1, j, h1, h2 => by
    unfold pspec_HeapOk_L5 pimpl_HeapOk_L4
    by_cases hlt : j < x.gTrail.length
    · rw [if_pos (by simpa using hlt), if_pos (by simpa using hlt), at_lt hlt]
      simp only [Option.bind_some]
      rw [l01In, isCell hn, wr_i64 (x := (x.gCells.length : Int) - 1) (by omega) (by omega), wr_succ hlt ht]
      simp only [Option.bind_some]
      by_cases h : 0 ≤ x.gTrail[j] ∧ x.gTrail[j] ≤ (x.gCells.length : Int) - 1
      · rw [decide_eq_true h]
        simp only [Bool.not_true, Bool.false_eq_true, if_false]
        obtain ⟨q, hq⟩ : ∃ q : Nat, x.gTrail[j] = (q : Int) := ⟨x.gTrail[j].toNat, by omega⟩
        rw [hq, at_lt (show q < x.gCells.length by omega)]
        simp only [Option.bind_some]
        split
        · exact ⟨_, rfl, rfl⟩
        · exact trail_L hn ht m (j + 1) (by omega) (by omega)
      · rw [decide_eq_false h]
        exact ⟨_, rfl, rfl⟩
    · rw [if_neg (by simpa using hlt), if_neg (by simpa using hlt)]
      exact ⟨_, rfl, rfl⟩

theorem heapOk {k : Nat} {x : GHeap} (hx : x.ok) (hk : maxLen < k) : ∃ b, pspec_HeapOk k x = some b ∧ pimpl_HeapOk k x = some b := by
  have hM := maxLen_eq
  unfold pspec_HeapOk pimpl_HeapOk
  by_cases h : (x.gCells.length : Int) > 60000
  · rw [if_pos (by simpa using h), if_pos (by simpa using h)]; exact ⟨_, rfl, rfl⟩
  · have hn : x.gCells.length ≤ 60000 := by omega
    obtain ⟨o, g1, g2⟩ := cells_L1 (k := k) hn hx.1 hk k 0 [] (by omega) (by omega) (fun v => by simp [mget, rf])
    obtain ⟨o2, q1, q2⟩ := trail_L (k := k) hn hx.2.1 k 0 (by omega) (by have := hx.2.1; omega)
    rw [show ((0 : Nat) : Int) = 0 from rfl] at g1 g2 q1 q2
    rw [if_neg (by simpa using h), if_neg (by simpa using h), g1, g2]
    simp only [Option.bind_some]
    cases o with
    | ret r => exact ⟨_, rfl, rfl⟩
    | done u =>
      simp only []
      rw [q1, q2]
      simp only [Option.bind_some]
      cases o2 with
      | ret r => exact ⟨_, rfl, rfl⟩
      | done u => exact ⟨_, rfl, rfl⟩
theorem law (x : GHeap) (hx : x.ok) : ∃ k, plaws_FnExactHeapOk k x = some true := by
  obtain ⟨k, hk⟩ : ∃ k, maxLen + 4 * nHeap x + 1099511627776 < k := ⟨_, Nat.lt_succ_self _⟩
  refine ⟨k, ?_⟩
  have hm : maxLen = 9223372036854775807 := maxLen_eq
  have hH : Huge = 1152921504606846976 := rfl
  have hw : maxLen + 2 * nHeap x + 2 < k := by omega
  unfold plaws_FnExactHeapOk
  obtain ⟨r, e1, h2, h3⟩ := szHeap (k := k) hw hx 1048576 (by omega) (by unfold Small; omega)
  rw [e1]
  simp only [Option.bind_some]
  by_cases hr : r < 0
  · rw [if_pos (by simpa using hr)]
  rw [if_neg (by simpa using hr)]
  have hn : nHeap x ≤ 1048576 := by omega
  have t0 := toHeap (k := k) hw hn
  obtain ⟨b, e2, e3⟩ := heapOk hx (k := k) (by omega)
  have q2 := eqHeap (k := k) (x := x) hw (by omega)
  simp only [t0, e2, e3, q2, Option.bind_some, beq_self_eq_true, Bool.not_true, Bool.false_eq_true, if_false]
end FnExactHeapOk
end Go.Proofs.Ytjgagbajgdmocaa

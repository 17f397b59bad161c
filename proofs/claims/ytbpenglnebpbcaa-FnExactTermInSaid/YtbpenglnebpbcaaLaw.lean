/- The law, plainly. -/
import Derived.Test.YtbpenglnebpbcaaFn
set_option linter.unusedVariables false
set_option linter.unusedSimpArgs false
namespace Go.Proofs.Ytbpenglnebpbcaa
open Go.RowKit Go.Av
namespace FnExactTermIn
mutual
/-- How much of a term there is. -/
def w : GTerm → Nat
  | .mk _ _ _ l => ws l + 1
def ws : List GTerm → Nat
  | [] => 1
  | x :: l => w x + ws l
end

theorem ws_pos : ∀ l : List GTerm, 1 ≤ ws l
  | [] => by rw [ws]; exact Nat.le_refl _
  | x :: l => by rw [ws]; have := ws_pos l; omega

theorem w_mem : ∀ {l : List GTerm} {x : GTerm}, x ∈ l → w x < ws l
  | y :: l, x, h => by
    rw [ws]
    rcases List.mem_cons.1 h with rfl | h
    · have := ws_pos l; omega
    · have := w_mem h; omega

theorem w_kids (x : GTerm) : ws x.gKids < w x := by
  cases x with
  | mk a b c l => rw [w]; exact Nat.lt_succ_self _

/-- Lists are short, all the way down. -/
inductive sm : GTerm → Prop where
  | mk {a : Int} {b : ByteArray} {c : Int} {l : List GTerm} : l.length ≤ 1048576 → (∀ x ∈ l, sm x) → sm (.mk a b c l)
def sms (l : List GTerm) : Prop := l.length ≤ 1048576 ∧ ∀ x ∈ l, sm x

theorem sm_kids {x : GTerm} (h : sm x) : sms x.gKids := by cases h with | mk h1 h2 => exact ⟨h1, h2⟩
theorem sm_of {x : GTerm} (h : sms x.gKids) : sm x := by cases x; exact .mk h.1 h.2
theorem ok_kids {x : GTerm} (h : x.ok) : okL GTerm.ok x.gKids := by cases h with | mk a b c l h1 h2 h3 h4 h5 => exact ⟨h4, h5⟩
theorem ok_name {x : GTerm} (h : x.ok) : okS x.gName := by cases h with | mk a b c l h1 h2 h3 h4 h5 => exact h2
theorem ok_kind {x : GTerm} (h : x.ok) : okI .i64 x.gKind := by cases h with | mk a b c l h1 h2 h3 h4 h5 => exact h1
theorem ok_num {x : GTerm} (h : x.ok) : okI .i64 x.gNum := by cases h with | mk a b c l h1 h2 h3 h4 h5 => exact h3

theorem szBoth : ∀ k : Nat,
    (∀ l, maxLen + ws l < k → okL GTerm.ok l → ∀ b : Int, 0 ≤ b → b ≤ Small → ∃ r, plaws_szTermS k l b = some r ∧ -1 ≤ r ∧ r ≤ b ∧ (0 ≤ r → sms l)) ∧
    (∀ x, maxLen + w x < k → x.ok → ∀ b : Int, 0 ≤ b → b ≤ Small → ∃ r, plaws_szTerm k x b = some r ∧ -1 ≤ r ∧ r ≤ b ∧ (0 ≤ r → sm x))
  | 0 => ⟨fun l h => by omega, fun x h => by omega⟩
  | k + 1 => by
    obtain ⟨ih1, ih2⟩ := szBoth k
    refine ⟨?_, ?_⟩
    · intro l hw hl b h0 h1
      have := ws_pos l
      exact sz_list (f := plaws_szTerm k) (L := plaws_szTermS_L1 k (plaws_szTermS k) (plaws_szTerm k) l) hl.1 (fun x hx b h0 h1 => ih2 x (by have := w_mem hx; omega) (hl.2 x hx) b h0 h1) (fun m b i => rfl) (by omega) b h0 h1
    · intro x hw hx b h0 h1
      have hn := ok_name hx
      unfold okS at hn
      have h1' := h1
      unfold Small at h1'
      rw [maxLen_eq] at hn
      unfold plaws_szTerm
      rw [wr_i64 (by omega) (by omega)]
      split
      · exact ⟨_, rfl, by omega, by omega, by omega⟩
      · rename_i h
        simp at h
        obtain ⟨r, h2, h3, h4, h5⟩ := ih1 x.gKids (by have := w_kids x; omega) (ok_kids hx) (b - (x.gName.size : Int)) (by omega) (by unfold Small; omega)
        rw [h2]
        simp only [Option.bind_some]
        split
        · exact ⟨_, rfl, by omega, by omega, by omega⟩
        · exact ⟨_, rfl, h3, by omega, fun h6 => sm_of (h5 h6)⟩

theorem toBoth : ∀ k : Nat, (∀ l, maxLen + ws l < k → sms l → plaws_toTermS k l = some l) ∧ (∀ x, maxLen + w x < k → sm x → plaws_toTerm k x = some x)
  | 0 => ⟨fun l h => by omega, fun x h => by omega⟩
  | k + 1 => by
    obtain ⟨ih1, ih2⟩ := toBoth k
    refine ⟨?_, ?_⟩
    · intro l hw hl
      have := ws_pos l
      have h := to_list (f := plaws_toTerm k) (L := plaws_toTermS_L1 k (plaws_toTermS k) (plaws_toTerm k) l) hl.1 (fun x hx => ih2 x (by have := w_mem hx; omega) (hl.2 x hx)) (fun m i o => rfl) (k := k) (by omega) (GTerm.mk 0 (bs []) 0 [])
      unfold plaws_toTermS
      rw [if_pos h.1, h.2]; rfl
    · intro x hw hx
      unfold plaws_toTerm
      rw [ih1 x.gKids (by have := w_kids x; omega) (sm_kids hx)]
      cases x; rfl

theorem eqBoth : ∀ k : Nat, (∀ l, maxLen + ws l < k → okL GTerm.ok l → plaws_eqTermS k l l = some true) ∧ (∀ x, maxLen + w x < k → x.ok → plaws_eqTerm k x x = some true)
  | 0 => ⟨fun l h => by omega, fun x h => by omega⟩
  | k + 1 => by
    obtain ⟨ih1, ih2⟩ := eqBoth k
    refine ⟨?_, ?_⟩
    · intro l hw hl
      have := ws_pos l
      have h := eq_list (f := plaws_eqTerm k) (L := plaws_eqTermS_L1 k (plaws_eqTermS k) (plaws_eqTerm k) l l) hl.1 (fun x hx => ih2 x (by have := w_mem hx; omega) (hl.2 x hx)) (fun m i => rfl) (k := k) (by omega)
      unfold plaws_eqTermS
      rw [if_neg h.1, h.2]; rfl
    · intro x hw hx
      unfold plaws_eqTerm
      rw [ih1 x.gKids (by have := w_kids x; omega) (ok_kids hx)]
      simp [sEq_refl]
theorem bothLoop {f g : GTerm → GTerm → Option Bool} {l l' : List GTerm} {L M : Nat → Int → Option (Out Bool Unit)} (hl : l.length ≤ maxLen) (hll : l.length = l'.length)
    (hf : ∀ x ∈ l, ∀ y ∈ l', ∃ b, f x y = some b ∧ g x y = some b ∧ (b = true ↔ x = y))
    (hs : ∀ m i, L (m + 1) i = if (decide (i < (l.length : Int))) = true then (at' l i).bind fun x => (at' l' i).bind fun y => (f x y).bind fun b => if (!b) = true then some (.ret false) else L m (wr.i64 (i + 1)) else some (.done ()))
    (ht : ∀ m i, M (m + 1) i = if (decide (i < (l.length : Int))) = true then (at' l i).bind fun x => (at' l' i).bind fun y => (g x y).bind fun b => if (!b) = true then some (.ret false) else M m (wr.i64 (i + 1)) else some (.done ())) :
    ∀ (m n : Nat), n ≤ l.length → l.length - n < m → ∃ o, L m (n : Int) = some o ∧ M m (n : Int) = some o ∧ (match o with | .ret r => r = false ∧ l.drop n ≠ l'.drop n | .done _ => l.drop n = l'.drop n)
  | 0, n, h1, h2 => by omega
  | m + 1, n, h1, h2 => by
    rw [hs, ht]
    by_cases hlt : n < l.length
    · have hlt' : n < l'.length := by omega
      have hd : decide ((n : Int) < (l.length : Int)) = true := by simpa using hlt
      rw [if_pos hd, if_pos hd, at_lt hlt, at_lt hlt']
      simp only [Option.bind_some]
      obtain ⟨b, h3, h4, h5⟩ := hf _ (List.getElem_mem hlt) _ (List.getElem_mem hlt')
      rw [h3, h4, List.drop_eq_getElem_cons hlt, List.drop_eq_getElem_cons hlt']
      simp only [Option.bind_some]
      cases b with
      | false =>
        refine ⟨.ret false, rfl, rfl, rfl, ?_⟩
        intro e
        have : l[n] = l'[n] := (List.cons.inj e).1
        have := h5.2 this
        cases this
      | true =>
        have e := h5.1 rfl
        obtain ⟨o, h6, h7, h8⟩ := bothLoop hl hll hf hs ht m (n + 1) (by omega) (by omega)
        refine ⟨o, ?_, ?_, ?_⟩
        · simp only [Bool.not_true, Bool.false_eq_true, if_false, wr_succ hlt hl]; exact h6
        · simp only [Bool.not_true, Bool.false_eq_true, if_false, wr_succ hlt hl]; exact h7
        · cases o with
          | ret r => exact ⟨h8.1, fun h => h8.2 (List.cons.inj h).2⟩
          | done u => have h8' : l.drop (n + 1) = l'.drop (n + 1) := h8; show l[n] :: _ = l'[n] :: _; rw [e, h8']
    · have hd : ¬ decide ((n : Int) < (l.length : Int)) = true := by simpa using hlt
      rw [if_neg hd, if_neg hd]
      refine ⟨.done (), rfl, rfl, ?_⟩
      show l.drop n = l'.drop n
      rw [List.drop_of_length_le (by omega), List.drop_of_length_le (by omega)]

theorem term_ext {x y : GTerm} : x = y ↔ x.gKind = y.gKind ∧ x.gName = y.gName ∧ x.gNum = y.gNum ∧ x.gKids = y.gKids := by
  cases x; cases y; simp [GTerm.gKind, GTerm.gName, GTerm.gNum, GTerm.gKids]

theorem ffalse {p : Prop} (h : p → False) : (false = true ↔ p) := ⟨fun e => (by cases e), fun e => (h e).elim⟩

theorem sameBoth : ∀ (k : Nat) (x y : GTerm), maxLen + w x < k → x.ok → y.ok → ∃ b, pspec_SameTerm k x y = some b ∧ pimpl_SameTerm k x y = some b ∧ (b = true ↔ x = y)
  | 0, x, y, h, _, _ => by omega
  | k + 1, x, y, h, hx, hy => by
    have hw := w_kids x
    have hwp := ws_pos x.gKids
    unfold pspec_SameTerm pimpl_SameTerm
    by_cases h1 : x.gKind = y.gKind
    · have e1 : (x.gKind != y.gKind) = false := by simp [h1]
      have e1' : (x.gKind == y.gKind) = true := by simp [h1]
      by_cases h2 : x.gName = y.gName
      · have e2 : sEq x.gName y.gName = true := sEq_iff.2 h2
        by_cases h3 : x.gNum = y.gNum
        · have e3 : (x.gNum != y.gNum) = false := by simp [h3]
          have e3' : (x.gNum == y.gNum) = true := by simp [h3]
          unfold pslices_EqualFunc___impl_Term___impl_Term_impl_Term_impl_Term__on2_pimpl_SameTerm
          simp only [e1, e1', e2, e3, e3', Bool.not_true, Bool.false_eq_true, if_false, if_true]
          by_cases h4 : x.gKids.length = y.gKids.length
          · have e4 : ((x.gKids.length : Int) != (y.gKids.length : Int)) = false := by simp [h4]
            simp only [e4, Bool.false_eq_true, if_false]
            obtain ⟨o, h5, h6, h7⟩ := bothLoop (f := pspec_SameTerm k) (g := pimpl_SameTerm k) (L := pspec_SameTerm_L1 k (pspec_SameTerm k) x y) (M := pslices_EqualFunc___impl_Term___impl_Term_impl_Term_impl_Term__on2_pimpl_SameTerm_L1 k (pimpl_SameTerm k) x.gKids y.gKids)
              (ok_kids hx).1 h4 (fun a ha b hb => sameBoth k a b (by have := w_mem ha; omega) ((ok_kids hx).2 a ha) ((ok_kids hy).2 b hb)) (fun m i => rfl) (fun m i => rfl) k 0 (by omega) (by have := (ok_kids hx).1; omega)
            rw [show ((0 : Nat) : Int) = 0 from rfl] at h5 h6
            rw [h5, h6]
            cases o with
            | ret r =>
              obtain ⟨rfl, h8⟩ := h7
              refine ⟨false, rfl, rfl, ?_⟩
              rw [term_ext]
              constructor
              · intro h; cases h
              · intro h; exact absurd h.2.2.2 (by simpa using h8)
            | done u =>
              have h8 : x.gKids = y.gKids := by simpa using h7
              exact ⟨true, rfl, rfl, ⟨fun _ => term_ext.2 ⟨h1, h2, h3, h8⟩, fun _ => rfl⟩⟩
          · have e4 : ((x.gKids.length : Int) != (y.gKids.length : Int)) = true := by simp; omega
            simp only [e4, if_true]
            refine ⟨false, rfl, rfl, ffalse fun h => absurd (by rw [h]) h4⟩
        · have e3 : (x.gNum != y.gNum) = true := by simp [h3]
          have e3' : (x.gNum == y.gNum) = false := by simp [h3]
          simp only [e1, e1', e2, e3, e3', Bool.not_true, Bool.false_eq_true, if_false, if_true]
          exact ⟨false, rfl, rfl, ffalse fun h => absurd (by rw [h]) h3⟩
      · have e2 : sEq x.gName y.gName = false := by
          cases he : sEq x.gName y.gName with
          | false => rfl
          | true => exact absurd (sEq_iff.1 he) h2
        simp only [e1, e1', e2, Bool.not_false, Bool.false_eq_true, if_false, if_true]
        exact ⟨false, rfl, rfl, ffalse fun h => absurd (by rw [h]) h2⟩
    · have e1 : (x.gKind != y.gKind) = true := by simp [h1]
      have e1' : (x.gKind == y.gKind) = false := by simp [h1]
      simp only [e1, e1', Bool.false_eq_true, if_false, if_true]
      exact ⟨false, rfl, rfl, ffalse fun h => absurd (by rw [h]) h1⟩
theorem termIn_L1 (k : Nat) (l : List GTerm) (t : GTerm) (hl : l.length ≤ maxLen) (ho : ∀ x ∈ l, x.ok) (ht : t.ok) (hk : maxLen + ws l < k) : ∀ (m n : Nat), n ≤ l.length → l.length - n < m →
    ∃ o, pspec_TermIn_L1 k l t m (n : Int) = some o ∧ pslices_IndexFunc___impl_Term_impl_Term__on1_pimpl_TermIn_1_L1 k l t m (n : Int) = some o
  | 0, n, h1, h2 => by omega
  | m + 1, n, h1, h2 => by
    unfold pspec_TermIn_L1 pslices_IndexFunc___impl_Term_impl_Term__on1_pimpl_TermIn_1_L1
    by_cases hlt : n < l.length
    · have hd : decide ((n : Int) < (l.length : Int)) = true := by simpa using hlt
      rw [if_pos hd, if_pos hd]
      obtain ⟨b, h3, h4, _⟩ := sameBoth k l[n] t (by have := w_mem (List.getElem_mem hlt); omega) (ho _ (List.getElem_mem hlt)) ht
      simp only [at_lt hlt, Option.bind_some, pimpl_TermIn_1, h3, h4, wr_succ hlt hl]
      cases b with
      | true => exact ⟨_, rfl, rfl⟩
      | false => exact termIn_L1 k l t hl ho ht hk m (n + 1) (by omega) (by omega)
    · have hd : ¬ decide ((n : Int) < (l.length : Int)) = true := by simpa using hlt
      rw [if_neg hd, if_neg hd]
      exact ⟨_, rfl, rfl⟩

theorem termIn {k : Nat} {l : List GTerm} {t : GTerm} (hl : okL GTerm.ok l) (ht : t.ok) (hk : maxLen + ws l < k) : ∃ r, pspec_TermIn k l t = some r ∧ pimpl_TermIn k l t = some r := by
  unfold pspec_TermIn pimpl_TermIn pslices_IndexFunc___impl_Term_impl_Term__on1_pimpl_TermIn_1
  obtain ⟨o, h1, h2⟩ := termIn_L1 k l t hl.1 hl.2 ht hk k 0 (by omega) (by have := hl.1; omega)
  rw [show ((0 : Nat) : Int) = 0 from rfl] at h1 h2
  rw [h1, h2]
  cases o with
  | ret r => exact ⟨r, rfl, rfl⟩
  | done u => exact ⟨_, rfl, rfl⟩

theorem law (l : List GTerm) (t : GTerm) (hl : okL GTerm.ok l) (ht : t.ok) : ∃ k, plaws_FnExactTermIn k l t = some true := by
  refine ⟨maxLen + ws l + w t + 1, ?_⟩
  generalize hk : maxLen + ws l + w t + 1 = k
  unfold plaws_FnExactTermIn
  obtain ⟨r, h1, h2, h3, h4⟩ := (szBoth k).1 l (by omega) hl 1048576 (by omega) (by unfold Small; omega)
  rw [h1]
  simp only [Option.bind_some]
  by_cases hr : r < 0
  · rw [if_pos (by simpa using hr)]
  · rw [if_neg (by simpa using hr)]
    obtain ⟨r', h5, h6, h7, h8⟩ := (szBoth k).2 t (by omega) ht r (by omega) (by unfold Small; omega)
    rw [h5]
    simp only [Option.bind_some]
    by_cases hr' : r' < 0
    · rw [if_pos (by simpa using hr')]
    · rw [if_neg (by simpa using hr')]
      rw [(toBoth k).1 l (by omega) (h4 (by omega)), (toBoth k).2 t (by omega) (h8 (by omega))]
      simp only [Option.bind_some]
      obtain ⟨v, e1, e2⟩ := termIn (k := k) hl ht (by omega)
      rw [e1, e2]
      simp only [Option.bind_some]
      rw [(eqBoth k).1 l (by omega) hl, (eqBoth k).2 t (by omega) ht]
      simp
end FnExactTermIn
end Go.Proofs.Ytbpenglnebpbcaa

/- The law, plainly. -/
import Derived.Test.YtbpenglnebpbcaaFn
set_option linter.unusedVariables false
set_option linter.unusedSimpArgs false
namespace Go.Proofs.Ytbpenglnebpbcaa
open Go.RowKit Go.Av
namespace FnExactEval
mutual
/-- How much of a term there is. -/
def w : GTerm → Nat
  | .mk _ _ _ l => ws l + 1
def ws : List GTerm → Nat
  | [] => 1
  | x :: l => w x + ws l
end

theorem ws_pos : ∀ l : List GTerm, 1 ≤ ws l
  | [] => by rw [ws]; exact Nat.le_refl _
  | x :: l => by rw [ws]; have := ws_pos l; omega

theorem w_mem : ∀ {l : List GTerm} {x : GTerm}, x ∈ l → w x < ws l
  | y :: l, x, h => by
    rw [ws]
    rcases List.mem_cons.1 h with rfl | h
    · have := ws_pos l; omega
    · have := w_mem h; omega

theorem w_kids (x : GTerm) : ws x.gKids < w x := by
  cases x with
  | mk a b c l => rw [w]; exact Nat.lt_succ_self _

/-- Lists are short, all the way down. -/
inductive sm : GTerm → Prop where
  | mk {a : Int} {b : ByteArray} {c : Int} {l : List GTerm} : l.length ≤ 1048576 → (∀ x ∈ l, sm x) → sm (.mk a b c l)
def sms (l : List GTerm) : Prop := l.length ≤ 1048576 ∧ ∀ x ∈ l, sm x

theorem sm_kids {x : GTerm} (h : sm x) : sms x.gKids := by cases h with | mk h1 h2 => exact ⟨h1, h2⟩
theorem sm_of {x : GTerm} (h : sms x.gKids) : sm x := by cases x; exact .mk h.1 h.2
theorem ok_kids {x : GTerm} (h : x.ok) : okL GTerm.ok x.gKids := by cases h with | mk a b c l h1 h2 h3 h4 h5 => exact ⟨h4, h5⟩
theorem ok_name {x : GTerm} (h : x.ok) : okS x.gName := by cases h with | mk a b c l h1 h2 h3 h4 h5 => exact h2
theorem ok_kind {x : GTerm} (h : x.ok) : okI .i64 x.gKind := by cases h with | mk a b c l h1 h2 h3 h4 h5 => exact h1
theorem ok_num {x : GTerm} (h : x.ok) : okI .i64 x.gNum := by cases h with | mk a b c l h1 h2 h3 h4 h5 => exact h3

theorem szBoth : ∀ k : Nat,
    (∀ l, maxLen + ws l < k → okL GTerm.ok l → ∀ b : Int, 0 ≤ b → b ≤ Small → ∃ r, plaws_szTermS k l b = some r ∧ -1 ≤ r ∧ r ≤ b ∧ (0 ≤ r → sms l)) ∧
    (∀ x, maxLen + w x < k → x.ok → ∀ b : Int, 0 ≤ b → b ≤ Small → ∃ r, plaws_szTerm k x b = some r ∧ -1 ≤ r ∧ r ≤ b ∧ (0 ≤ r → sm x))
  | 0 => ⟨fun l h => by omega, fun x h => by omega⟩
  | k + 1 => by
    obtain ⟨ih1, ih2⟩ := szBoth k
    refine ⟨?_, ?_⟩
    · intro l hw hl b h0 h1
      have := ws_pos l
      exact sz_list (f := plaws_szTerm k) (L := plaws_szTermS_L1 k (plaws_szTermS k) (plaws_szTerm k) l) hl.1 (fun x hx b h0 h1 => ih2 x (by have := w_mem hx; omega) (hl.2 x hx) b h0 h1) (fun m b i => rfl) (by omega) b h0 h1
    · intro x hw hx b h0 h1
      have hn := ok_name hx
      unfold okS at hn
      have h1' := h1
      unfold Small at h1'
      rw [maxLen_eq] at hn
      unfold plaws_szTerm
      rw [wr_i64 (by omega) (by omega)]
      split
      · exact ⟨_, rfl, by omega, by omega, by omega⟩
      · rename_i h
        simp at h
        obtain ⟨r, h2, h3, h4, h5⟩ := ih1 x.gKids (by have := w_kids x; omega) (ok_kids hx) (b - (x.gName.size : Int)) (by omega) (by unfold Small; omega)
        rw [h2]
        simp only [Option.bind_some]
        split
        · exact ⟨_, rfl, by omega, by omega, by omega⟩
        · exact ⟨_, rfl, h3, by omega, fun h6 => sm_of (h5 h6)⟩

theorem toBoth : ∀ k : Nat, (∀ l, maxLen + ws l < k → sms l → plaws_toTermS k l = some l) ∧ (∀ x, maxLen + w x < k → sm x → plaws_toTerm k x = some x)
  | 0 => ⟨fun l h => by omega, fun x h => by omega⟩
  | k + 1 => by
    obtain ⟨ih1, ih2⟩ := toBoth k
    refine ⟨?_, ?_⟩
    · intro l hw hl
      have := ws_pos l
      have h := to_list (f := plaws_toTerm k) (L := plaws_toTermS_L1 k (plaws_toTermS k) (plaws_toTerm k) l) hl.1 (fun x hx => ih2 x (by have := w_mem hx; omega) (hl.2 x hx)) (fun m i o => rfl) (k := k) (by omega) (GTerm.mk 0 (bs []) 0 [])
      unfold plaws_toTermS
      rw [if_pos h.1, h.2]; rfl
    · intro x hw hx
      unfold plaws_toTerm
      rw [ih1 x.gKids (by have := w_kids x; omega) (sm_kids hx)]
      cases x; rfl

theorem eqBoth : ∀ k : Nat, (∀ l, maxLen + ws l < k → okL GTerm.ok l → plaws_eqTermS k l l = some true) ∧ (∀ x, maxLen + w x < k → x.ok → plaws_eqTerm k x x = some true)
  | 0 => ⟨fun l h => by omega, fun x h => by omega⟩
  | k + 1 => by
    obtain ⟨ih1, ih2⟩ := eqBoth k
    refine ⟨?_, ?_⟩
    · intro l hw hl
      have := ws_pos l
      have h := eq_list (f := plaws_eqTerm k) (L := plaws_eqTermS_L1 k (plaws_eqTermS k) (plaws_eqTerm k) l l) hl.1 (fun x hx => ih2 x (by have := w_mem hx; omega) (hl.2 x hx)) (fun m i => rfl) (k := k) (by omega)
      unfold plaws_eqTermS
      rw [if_neg h.1, h.2]; rfl
    · intro x hw hx
      unfold plaws_eqTerm
      rw [ih1 x.gKids (by have := w_kids x; omega) (ok_kids hx)]
      simp [sEq_refl]
/-- Is it within these bounds? -/
def inR (x a b : Int) : Bool := decide (a ≤ x ∧ x ≤ b)
theorem inR_t {x a b : Int} (h : a ≤ x ∧ x ≤ b) : inR x a b = true := decide_eq_true h
theorem inR_f {x a b : Int} (h : ¬ (a ≤ x ∧ x ≤ b)) : inR x a b = false := decide_eq_false h

theorem l01In (k : Nat) (x a b : Int) : pspec_l01In k x a b = some (inR x a b) := by
  unfold pspec_l01In inR
  by_cases h : a ≤ x
  · rw [if_pos (by simpa using h)]; simp [h]
  · rw [if_neg (by simpa using h)]; simp [h]

theorem within (k : Nat) (x a b : Int) : pimpl_within k x a b = some (inR x a b) := by
  unfold pimpl_within inR
  by_cases h : a ≤ x
  · rw [if_pos (by simpa using h)]; simp [h]
  · rw [if_neg (by simpa using h)]; simp [h]
theorem walk_L1 (k : Nat) (l : List GTerm) (hl : l.length ≤ 1048576) : ∀ (m n : Nat) (x : GTerm), n ≤ 5000 → 5000 - n < m →
    ∃ y, pspec_l04Walk_L1 k l m (n : Int) x = some (.done y) ∧ pimpl_walked_L1 k l m (n : Int) x = some (.done y)
  | 0, n, x, h1, h2 => by omega
  | m + 1, n, x, h1, h2 => by
    unfold pspec_l04Walk_L1 pimpl_walked_L1
    have hw1 : wr.i64 ((l.length : Int) - 1) = (l.length : Int) - 1 := wr_i64 (by omega) (by omega)
    by_cases hlt : n < 5000
    · have hd : decide ((n : Int) < 5000) = true := by simp; omega
      rw [if_pos hd, if_pos hd, l01In, within, hw1]
      simp only [Option.bind_some]
      by_cases hk : x.gKind = 1
      · have e1 : (x.gKind != 1) = false := by simp [hk]
        have e2 : (x.gKind == 1) = true := by simp [hk]
        by_cases ha : 0 ≤ x.gNum ∧ x.gNum ≤ (l.length : Int) - 1
        · have e3 : inR x.gNum 0 ((l.length : Int) - 1) = true := inR_t ha
          obtain ⟨i, hi⟩ : ∃ i : Nat, x.gNum = (i : Int) := ⟨x.gNum.toNat, by omega⟩
          have hil : i < l.length := by omega
          have hs : wr.i64 ((n : Int) + 1) = ((n + 1 : Nat) : Int) := by rw [wr_i64 (by omega) (by omega)]; omega
          simp only [e1, e2, e3, Bool.not_true, Bool.false_eq_true, if_false, if_true]
          rw [hi]
          simp only [at_lt hil, Option.bind_some, hs]
          by_cases h0 : l[i].gKind = 0
          · have e4 : (l[i].gKind == 0) = true := by simp [h0]
            have e5 : (l[i].gKind != 0) = false := by simp [h0]
            simp only [e4, e5, Bool.false_eq_true, if_false, if_true]
            exact ⟨_, rfl, rfl⟩
          · have e4 : (l[i].gKind == 0) = false := by simp [h0]
            have e5 : (l[i].gKind != 0) = true := by simp [h0]
            simp only [e4, e5, Bool.false_eq_true, if_false, if_true]
            exact walk_L1 k l hl m (n + 1) _ (by omega) (by omega)
        · have e3 : inR x.gNum 0 ((l.length : Int) - 1) = false := inR_f ha
          simp only [e1, e2, e3, Bool.not_false, Bool.false_eq_true, if_false, if_true]
          exact ⟨_, rfl, rfl⟩
      · have e1 : (x.gKind != 1) = true := by simp [hk]
        have e2 : (x.gKind == 1) = false := by simp [hk]
        simp only [e1, e2, Bool.false_eq_true, if_false, if_true]
        exact ⟨_, rfl, rfl⟩
    · have hd : ¬ decide ((n : Int) < 5000) = true := by simp; omega
      rw [if_neg hd, if_neg hd]
      exact ⟨_, rfl, rfl⟩

theorem walk {k : Nat} (hk : maxLen < k) {l : List GTerm} (hl : l.length ≤ 1048576) (x : GTerm) : ∃ y, pspec_l04Walk k l x = some y ∧ pimpl_walked k l x = some y := by
  rw [maxLen_eq] at hk
  unfold pspec_l04Walk pimpl_walked
  obtain ⟨y, h1, h2⟩ := walk_L1 k l hl k 0 x (by omega) (by omega)
  rw [show ((0 : Nat) : Int) = 0 from rfl] at h1 h2
  rw [h1, h2]
  exact ⟨y, rfl, rfl⟩

/-- A number in its range, or the error. -/
def rng (x : Int) : Int × Int := if -999999999 ≤ x ∧ x ≤ 999999999 then (x, 0) else (0, 3)

theorem l10Range (k : Nat) (x : Int) : pspec_l10Range k x = some (rng x) := by
  unfold pspec_l10Range rng
  rw [l01In]
  simp only [Option.bind_some]
  by_cases h : -999999999 ≤ x ∧ x ≤ 999999999
  · rw [inR_t h, if_pos h]; rfl
  · rw [inR_f h, if_neg h]; rfl

theorem eval_J4 (k : Nat) (f : List GTerm → GTerm → Int → Option (Int × Int)) (x : Int) : pimpl_eval_J4 k f x = some (rng x) := by
  unfold pimpl_eval_J4 rng
  rw [within]
  simp only [Option.bind_some]
  by_cases h : -999999999 ≤ x ∧ x ≤ 999999999
  · rw [inR_t h, if_pos h]; rfl
  · rw [inR_f h, if_neg h]; rfl

theorem evalBoth : ∀ (k n : Nat) (l : List GTerm) (x : GTerm), l.length ≤ 1048576 → n ≤ 41 → maxLen + (42 - n) < k → ∃ r, pspec_l10Eval k l x (n : Int) = some r ∧ pimpl_eval k l x (n : Int) = some r
  | 0, n, l, x, hl, hn, hk => by omega
  | k + 1, n, l, x, hl, hn, hk => by
    have ih : n ≤ 40 → ∀ y, ∃ r, pspec_l10Eval k l y (wr.i64 ((n : Int) + 1)) = some r ∧ pimpl_eval k l y (wr.i64 ((n : Int) + 1)) = some r := by
      intro h y
      have hs : wr.i64 ((n : Int) + 1) = ((n + 1 : Nat) : Int) := by rw [wr_i64 (by omega) (by omega)]; omega
      rw [hs]
      exact evalBoth k (n + 1) l y hl (by omega) (by omega)
    unfold pspec_l10Eval pimpl_eval
    obtain ⟨y, h1, h2⟩ := walk (k := k) (by omega) hl x
    rw [h1, h2]
    simp only [Option.bind_some, l10Range, within]
    obtain ⟨kd, nm, nu, kids⟩ := y
    simp only [GTerm.gKind, GTerm.gName, GTerm.gNum, GTerm.gKids]
    by_cases c1 : kd = 1
    · subst c1; exact ⟨(0, 1), rfl, rfl⟩
    have d1 : (kd == 1) = false := by simp [c1]
    by_cases c3 : kd = 3
    · subst c3
      refine ⟨rng nu, rfl, ?_⟩
      unfold rng
      by_cases h : -999999999 ≤ nu ∧ nu ≤ 999999999
      · simp only [inR_t h, if_pos h]; rfl
      · simp only [inR_f h, if_neg h]; rfl
    have d3 : (kd == 3) = false := by simp [c3]
    simp only [d1, d3, Bool.false_eq_true, if_false]
    by_cases hn40 : n ≤ 40
    · have ih := ih hn40
      have hd : decide ((n : Int) > 40) = false := by simp; omega
      simp only [hd, Bool.false_eq_true, if_false]
      by_cases c4 : kd = 4
      · subst c4
        unfold pspec_l03Is pspec_l10Sign pspec_l10Eval_J1 pimpl_eval_J1 pimpl_isStruct pimpl_eval_J2 pimpl_eval_J3 pspec_l10Two
        simp only [GTerm.gKind, GTerm.gName, GTerm.gNum, GTerm.gKids, l10Range, eval_J4]
        match kids with
        | [] =>
          have q1' : ((([] : List GTerm).length : Int) == 1) = false := rfl
          have q2' : ((([] : List GTerm).length : Int) == 2) = false := rfl
          refine ⟨(0, 2), ?_, ?_⟩
          · by_cases hm : sEq nm (bs [45]) = true <;> simp [hm]
          · by_cases hm : sEq nm (bs [45]) = true <;> simp [hm]
        | [a] =>
          obtain ⟨r, e1, e2⟩ := ih a
          by_cases hm : sEq nm (bs [45]) = true
          · have g1 : at' [a] 0 = some a := rfl
            simp [hm, g1, e1, e2]
            by_cases hr : r.2 = 0
            · simp [hr]
            · simp [hr]
          · have hm' : sEq nm (bs [45]) = false := by simpa using hm
            simp [hm']
        | [a, b] =>
          obtain ⟨r, e1, e2⟩ := ih a
          obtain ⟨s, e3, e4⟩ := ih b
          have g1 : at' [a, b] 0 = some a := rfl
          have g2 : at' [a, b] 1 = some b := rfl
          by_cases p1 : sEq nm (bs [43]) = true
          · simp [p1, g1, g2, e1, e2, e3, e4]
            by_cases hr : r.2 = 0 <;> by_cases hs : s.2 = 0 <;> by_cases hm : sEq nm (bs [45]) = true <;> simp [hr, hs, hm]
          by_cases p2 : sEq nm (bs [45]) = true
          · simp [p1, p2, g1, g2, e1, e2, e3, e4]
            by_cases hr : r.2 = 0 <;> by_cases hs : s.2 = 0 <;> simp [hr, hs]
          by_cases p3 : sEq nm (bs [42]) = true
          · simp [p1, p2, p3, g1, g2, e1, e2, e3, e4]
            by_cases hr : r.2 = 0 <;> by_cases hs : s.2 = 0 <;> simp [hr, hs]
          by_cases p4 : sEq nm (bs [47, 47]) = true
          · simp [p1, p2, p3, p4, g1, g2, e1, e2, e3, e4]
            by_cases hr : r.2 = 0 <;> by_cases hs : s.2 = 0 <;> by_cases hz : s.1 = 0 <;> simp [hr, hs, hz]
            exact ⟨_, _, ⟨rfl, rfl⟩, rfl⟩
          · simp [p1, p2, p3, p4]
        | a :: b :: c :: rest =>
          have q1 : ((a :: b :: c :: rest).length : Int) ≠ 1 := by simp; omega
          have q2 : ((a :: b :: c :: rest).length : Int) ≠ 2 := by simp; omega
          have q1' : (((a :: b :: c :: rest).length : Int) == 1) = false := by rw [beq_eq_false_iff_ne]; exact q1
          have q2' : (((a :: b :: c :: rest).length : Int) == 2) = false := by rw [beq_eq_false_iff_ne]; exact q2
          refine ⟨(0, 2), ?_, ?_⟩
          · by_cases hm : sEq nm (bs [45]) = true <;> simp only [hm, q1', q2', if_true, if_false, Bool.false_eq_true, Option.bind_some] <;> rfl
          · by_cases hm : sEq nm (bs [45]) = true <;> simp only [hm, q1', q2', if_true, if_false, Bool.false_eq_true, Option.bind_some, Bool.not_false] <;> rfl
      · have c4' : (kd == 4) = false := by simpa using c4
        have c4'' : (kd != 4) = true := by simpa using c4
        unfold pspec_l03Is pspec_l10Eval_J1
        simp only [GTerm.gKind, c4', c4'', Bool.false_eq_true, if_false, if_true, Option.bind_some]
        exact ⟨(0, 2), rfl, rfl⟩
    · have hd : decide ((n : Int) > 40) = true := by simp; omega
      simp only [hd, if_true]
      split <;> exact ⟨_, rfl, rfl⟩

theorem eval {k : Nat} (hk : maxLen + 42 < k) {x : GBinds} (hx : sms x.gList) (t : GTerm) : ∃ r, pspec_Eval k x t = some r ∧ pimpl_Eval k x t = some r := by
  unfold pspec_Eval pimpl_Eval
  obtain ⟨r, h1, h2⟩ := evalBoth k 1 x.gList t hx.1 (by omega) (by omega)
  rw [show ((1 : Nat) : Int) = 1 from rfl] at h1 h2
  rw [h1, h2]
  exact ⟨_, rfl, rfl⟩

theorem law (x : GBinds) (t : GTerm) (hx : x.ok) (ht : t.ok) : ∃ k, plaws_FnExactEval k x t = some true := by
  refine ⟨maxLen + 42 + ws x.gList + w t + 1, ?_⟩
  generalize hk : maxLen + 42 + ws x.gList + w t + 1 = k
  unfold plaws_FnExactEval plaws_szBinds plaws_toBinds plaws_eqBinds
  obtain ⟨r, h1, h2, h3, h4⟩ := (szBoth k).1 x.gList (by omega) hx 1048576 (by omega) (by unfold Small; omega)
  rw [h1]
  simp only [Option.bind_some]
  by_cases hr : r < 0
  · rw [if_pos (by simpa using hr)]; simp
  · rw [if_neg (by simpa using hr)]
    simp only [Option.bind_some]
    rw [if_neg (by simpa using hr)]
    obtain ⟨r', h5, h6, h7, h8⟩ := (szBoth k).2 t (by omega) ht r (by omega) (by unfold Small; omega)
    rw [h5]
    simp only [Option.bind_some]
    by_cases hr' : r' < 0
    · rw [if_pos (by simpa using hr')]
    · rw [if_neg (by simpa using hr')]
      have s1 := h4 (by omega)
      have s2 := h8 (by omega)
      have hb : GBinds.mk x.gList = x := rfl
      rw [(toBoth k).1 x.gList (by omega) s1, (toBoth k).2 t (by omega) s2]
      simp only [Option.bind_some, hb]
      obtain ⟨v, e1, e2⟩ := eval (k := k) (by omega) s1 t
      rw [e1, e2]
      simp only [Option.bind_some]
      rw [(eqBoth k).1 x.gList (by omega) hx, (eqBoth k).2 t (by omega) ht]
      simp
end FnExactEval
end Go.Proofs.Ytbpenglnebpbcaa

/- The law, plainly. -/
import Derived.Test.YtjgagbajgdmocaaFn
set_option linter.unusedVariables false
set_option linter.unusedSimpArgs false
namespace Go.Proofs.Ytjgagbajgdmocaa
open Go.RowKit Go.Av
namespace FnExactAliveAt
mutual
/-- How much of a term there is. -/
def w : GTerm → Nat
  | .mk _ _ _ l => ws l + 1
def ws : List GTerm → Nat
  | [] => 1
  | x :: l => w x + ws l
end

theorem ws_pos : ∀ l : List GTerm, 1 ≤ ws l
  | [] => by rw [ws]; exact Nat.le_refl _
  | x :: l => by rw [ws]; have := ws_pos l; omega

theorem w_mem : ∀ {l : List GTerm} {x : GTerm}, x ∈ l → w x < ws l
  | y :: l, x, h => by
    rw [ws]
    rcases List.mem_cons.1 h with rfl | h
    · have := ws_pos l; omega
    · have := w_mem h; omega

theorem w_kids (x : GTerm) : ws x.gKids < w x := by
  cases x with
  | mk a b c l => rw [w]; exact Nat.lt_succ_self _

/-- Lists are short, all the way down. -/
inductive sm : GTerm → Prop where
  | mk {a : Int} {b : ByteArray} {c : Int} {l : List GTerm} : l.length ≤ 1048576 → (∀ x ∈ l, sm x) → sm (.mk a b c l)
def sms (l : List GTerm) : Prop := l.length ≤ 1048576 ∧ ∀ x ∈ l, sm x

theorem sm_kids {x : GTerm} (h : sm x) : sms x.gKids := by cases h with | mk h1 h2 => exact ⟨h1, h2⟩
theorem sm_of {x : GTerm} (h : sms x.gKids) : sm x := by cases x; exact .mk h.1 h.2
theorem ok_kids {x : GTerm} (h : x.ok) : okL GTerm.ok x.gKids := by cases h with | mk a b c l h1 h2 h3 h4 h5 => exact ⟨h4, h5⟩
theorem ok_name {x : GTerm} (h : x.ok) : okS x.gName := by cases h with | mk a b c l h1 h2 h3 h4 h5 => exact h2
theorem ok_kind {x : GTerm} (h : x.ok) : okI .i64 x.gKind := by cases h with | mk a b c l h1 h2 h3 h4 h5 => exact h1
theorem ok_num {x : GTerm} (h : x.ok) : okI .i64 x.gNum := by cases h with | mk a b c l h1 h2 h3 h4 h5 => exact h3

theorem szBoth : ∀ k : Nat,
    (∀ l, maxLen + ws l < k → okL GTerm.ok l → ∀ b : Int, 0 ≤ b → b ≤ Small → ∃ r, plaws_szTermS k l b = some r ∧ -1 ≤ r ∧ r ≤ b ∧ (0 ≤ r → sms l)) ∧
    (∀ x, maxLen + w x < k → x.ok → ∀ b : Int, 0 ≤ b → b ≤ Small → ∃ r, plaws_szTerm k x b = some r ∧ -1 ≤ r ∧ r ≤ b ∧ (0 ≤ r → sm x))
  | 0 => ⟨fun l h => by omega, fun x h => by omega⟩
  | k + 1 => by
    obtain ⟨ih1, ih2⟩ := szBoth k
    refine ⟨?_, ?_⟩
    · intro l hw hl b h0 h1
      have := ws_pos l
      exact sz_list (f := plaws_szTerm k) (L := plaws_szTermS_L1 k (plaws_szTerm k) (plaws_szTermS k) l) hl.1 (fun x hx b h0 h1 => ih2 x (by have := w_mem hx; omega) (hl.2 x hx) b h0 h1) (fun m b i => rfl) (by omega) b h0 h1
    · intro x hw hx b h0 h1
      have hn := ok_name hx
      unfold okS at hn
      have h1' := h1
      unfold Small at h1'
      rw [maxLen_eq] at hn
      unfold plaws_szTerm
      rw [wr_i64 (by omega) (by omega)]
      split
      · exact ⟨_, rfl, by omega, by omega, by omega⟩
      · rename_i h
        simp at h
        obtain ⟨r, h2, h3, h4, h5⟩ := ih1 x.gKids (by have := w_kids x; omega) (ok_kids hx) (b - (x.gName.size : Int)) (by omega) (by unfold Small; omega)
        rw [h2]
        simp only [Option.bind_some]
        split
        · exact ⟨_, rfl, by omega, by omega, by omega⟩
        · exact ⟨_, rfl, h3, by omega, fun h6 => sm_of (h5 h6)⟩

theorem toBoth : ∀ k : Nat, (∀ l, maxLen + ws l < k → sms l → plaws_toTermS k l = some l) ∧ (∀ x, maxLen + w x < k → sm x → plaws_toTerm k x = some x)
  | 0 => ⟨fun l h => by omega, fun x h => by omega⟩
  | k + 1 => by
    obtain ⟨ih1, ih2⟩ := toBoth k
    refine ⟨?_, ?_⟩
    · intro l hw hl
      have := ws_pos l
      have h := to_list (f := plaws_toTerm k) (L := plaws_toTermS_L1 k (plaws_toTerm k) (plaws_toTermS k) l) hl.1 (fun x hx => ih2 x (by have := w_mem hx; omega) (hl.2 x hx)) (fun m i o => rfl) (k := k) (by omega) (GTerm.mk 0 (bs []) 0 [])
      unfold plaws_toTermS
      rw [if_pos h.1, h.2]; rfl
    · intro x hw hx
      unfold plaws_toTerm
      rw [ih1 x.gKids (by have := w_kids x; omega) (sm_kids hx)]
      cases x; rfl

theorem eqBoth : ∀ k : Nat, (∀ l, maxLen + ws l < k → okL GTerm.ok l → plaws_eqTermS k l l = some true) ∧ (∀ x, maxLen + w x < k → x.ok → plaws_eqTerm k x x = some true)
  | 0 => ⟨fun l h => by omega, fun x h => by omega⟩
  | k + 1 => by
    obtain ⟨ih1, ih2⟩ := eqBoth k
    refine ⟨?_, ?_⟩
    · intro l hw hl
      have := ws_pos l
      have h := eq_list (f := plaws_eqTerm k) (L := plaws_eqTermS_L1 k (plaws_eqTerm k) (plaws_eqTermS k) l l) hl.1 (fun x hx => ih2 x (by have := w_mem hx; omega) (hl.2 x hx)) (fun m i => rfl) (k := k) (by omega)
      unfold plaws_eqTermS
      rw [if_neg h.1, h.2]; rfl
    · intro x hw hx
      unfold plaws_eqTerm
      rw [ih1 x.gKids (by have := w_kids x; omega) (ok_kids hx)]
      simp [sEq_refl]
def smClause (x : GClause) : Prop := sm x.gHead ∧ sm x.gBody

def wClause (x : GClause) : Nat := w x.gHead + w x.gBody

theorem szClause {k : Nat} {x : GClause} (hw : maxLen + wClause x < k) (hx : x.ok) (b : Int) (h0 : 0 ≤ b) (h1 : b ≤ Small) : ∃ r, plaws_szClause k x b = some r ∧ -1 ≤ r ∧ r ≤ b ∧ (0 ≤ r → smClause x) := by
  unfold wClause at hw
  unfold plaws_szClause
  obtain ⟨r1, e1, l1, u1, s1⟩ := (szBoth k).2 x.gHead (by omega) hx.1 b h0 (by have := h1; unfold Small at *; omega)
  rw [e1]
  simp only [Option.bind_some]
  by_cases c1 : r1 < 0
  · rw [if_pos (by simpa using c1)]; exact ⟨_, rfl, by omega, by omega, by omega⟩
  rw [if_neg (by simpa using c1)]
  obtain ⟨r2, e2, l2, u2, s2⟩ := (szBoth k).2 x.gBody (by omega) hx.2.1 r1 (by omega) (by have := h1; unfold Small at *; omega)
  rw [e2]
  simp only [Option.bind_some]
  by_cases c2 : r2 < 0
  · rw [if_pos (by simpa using c2)]; exact ⟨_, rfl, by omega, by omega, by omega⟩
  rw [if_neg (by simpa using c2)]
  have hs3 : x.gFile.size ≤ 9223372036854775807 := by have := hx.2.2; unfold okS at this; rw [maxLen_eq] at this; exact this
  have hb3 : 0 ≤ r2 ∧ r2 ≤ 1048576 := ⟨(by omega), by have := h1; unfold Small at this; omega⟩
  have hr3 : wr.i64 (r2 - (x.gFile.size : Int)) = (r2 - (x.gFile.size : Int)) := wr_i64 (by omega) (by omega)
  rw [hr3]
  by_cases c3 : (r2 - (x.gFile.size : Int)) < 0
  · rw [if_pos (by simpa using c3)]; exact ⟨_, rfl, by omega, by omega, by omega⟩
  rw [if_neg (by simpa using c3)]
  exact ⟨_, rfl, by omega, by omega, fun h => ⟨s1 (by omega), s2 (by omega)⟩⟩

theorem toClause {k : Nat} {x : GClause} (hw : maxLen + wClause x < k) (hx : smClause x) : plaws_toClause k x = some x := by
  unfold wClause at hw
  unfold plaws_toClause
  rw [(toBoth k).2 x.gHead (by omega) hx.1]
  simp only [Option.bind_some]
  rw [(toBoth k).2 x.gBody (by omega) hx.2]
  simp only [Option.bind_some]

theorem eqClause {k : Nat} {x : GClause} (hw : maxLen + wClause x < k) (hx : x.ok) : plaws_eqClause k x x = some true := by
  unfold wClause at hw
  unfold plaws_eqClause
  rw [(eqBoth k).2 x.gHead (by omega) hx.1]
  rw [(eqBoth k).2 x.gBody (by omega) hx.2.1]
  simp [sEq_refl]

def smIns (x : GIns) : Prop := True

theorem szIns {k : Nat} {x : GIns} (hw : maxLen + 0 < k) (hx : x.ok) (b : Int) (h0 : 0 ≤ b) (h1 : b ≤ Small) : ∃ r, plaws_szIns k x b = some r ∧ -1 ≤ r ∧ r ≤ b ∧ (0 ≤ r → smIns x) := by
  unfold plaws_szIns
  have hs1 : x.gName.size ≤ 9223372036854775807 := by have := hx.2.1; unfold okS at this; rw [maxLen_eq] at this; exact this
  have hb1 : 0 ≤ b ∧ b ≤ 1048576 := ⟨h0, by have := h1; unfold Small at this; omega⟩
  have hr1 : wr.i64 (b - (x.gName.size : Int)) = (b - (x.gName.size : Int)) := wr_i64 (by omega) (by omega)
  rw [hr1]
  by_cases c1 : (b - (x.gName.size : Int)) < 0
  · rw [if_pos (by simpa using c1)]; exact ⟨_, rfl, by omega, by omega, by omega⟩
  rw [if_neg (by simpa using c1)]
  exact ⟨_, rfl, by omega, by omega, fun h => trivial⟩

theorem toIns {k : Nat} {x : GIns} (hw : maxLen + 0 < k) (hx : smIns x) : plaws_toIns k x = some x := by
  unfold plaws_toIns
  rfl

theorem eqIns {k : Nat} {x : GIns} (hw : maxLen + 0 < k) (hx : x.ok) : plaws_eqIns k x x = some true := by
  unfold plaws_eqIns
  simp [sEq_refl]

def smInsS (l : List GIns) : Prop := l.length ≤ 1048576 ∧ ∀ x ∈ l, smIns x

theorem szInsS {k : Nat} {l : List GIns} (hw : maxLen + 0 < k) (hl : okL GIns.ok l) (b : Int) (h0 : 0 ≤ b) (h1 : b ≤ Small) : ∃ r, plaws_szInsS k l b = some r ∧ -1 ≤ r ∧ r ≤ b ∧ (0 ≤ r → smInsS l) :=
  sz_list (f := plaws_szIns k) (L := plaws_szInsS_L1 k l) hl.1 (fun x hx b h0 h1 => szIns (k := k) (x := x) (by omega) (hl.2 x hx) b h0 h1) (fun m b i => rfl) (by omega) b h0 h1

theorem toInsS {k : Nat} {l : List GIns} (hw : maxLen + 0 < k) (hl : smInsS l) : plaws_toInsS k l = some l := by
  have h := to_list (f := plaws_toIns k) (L := plaws_toInsS_L1 k l) hl.1 (fun x hx => toIns (k := k) (x := x) (by omega) (hl.2 x hx)) (fun m i o => rfl) (k := k) (by omega) (GIns.mk 0 (bs []) 0 0)
  unfold plaws_toInsS
  rw [if_pos h.1, h.2]; rfl

theorem eqInsS {k : Nat} {l : List GIns} (hw : maxLen + 0 < k) (hl : okL GIns.ok l) : plaws_eqInsS k l l = some true := by
  have h := eq_list (f := plaws_eqIns k) (L := plaws_eqInsS_L1 k l l) hl.1 (fun x hx => eqIns (k := k) (x := x) (by omega) (hl.2 x hx)) (fun m i => rfl) (k := k) (by omega)
  unfold plaws_eqInsS
  rw [if_neg h.1, h.2]; rfl

def smCode (x : GCode) : Prop := smInsS x.gHead ∧ smInsS x.gBody

theorem szCode {k : Nat} {x : GCode} (hw : maxLen + 0 < k) (hx : x.ok) (b : Int) (h0 : 0 ≤ b) (h1 : b ≤ Small) : ∃ r, plaws_szCode k x b = some r ∧ -1 ≤ r ∧ r ≤ b ∧ (0 ≤ r → smCode x) := by
  unfold plaws_szCode
  obtain ⟨r1, e1, l1, u1, s1⟩ := szInsS (k := k) (l := x.gHead) (by omega) hx.1 b h0 (by have := h1; unfold Small at *; omega)
  rw [e1]
  simp only [Option.bind_some]
  by_cases c1 : r1 < 0
  · rw [if_pos (by simpa using c1)]; exact ⟨_, rfl, by omega, by omega, by omega⟩
  rw [if_neg (by simpa using c1)]
  obtain ⟨r2, e2, l2, u2, s2⟩ := szInsS (k := k) (l := x.gBody) (by omega) hx.2.1 r1 (by omega) (by have := h1; unfold Small at *; omega)
  rw [e2]
  simp only [Option.bind_some]
  by_cases c2 : r2 < 0
  · rw [if_pos (by simpa using c2)]; exact ⟨_, rfl, by omega, by omega, by omega⟩
  rw [if_neg (by simpa using c2)]
  exact ⟨_, rfl, by omega, by omega, fun h => ⟨s1 (by omega), s2 (by omega)⟩⟩

theorem toCode {k : Nat} {x : GCode} (hw : maxLen + 0 < k) (hx : smCode x) : plaws_toCode k x = some x := by
  unfold plaws_toCode
  rw [toInsS (k := k) (l := x.gHead) (by omega) hx.1]
  simp only [Option.bind_some]
  rw [toInsS (k := k) (l := x.gBody) (by omega) hx.2]
  simp only [Option.bind_some]

theorem eqCode {k : Nat} {x : GCode} (hw : maxLen + 0 < k) (hx : x.ok) : plaws_eqCode k x x = some true := by
  unfold plaws_eqCode
  rw [eqInsS (k := k) (l := x.gHead) (by omega) hx.1]
  rw [eqInsS (k := k) (l := x.gBody) (by omega) hx.2.1]
  simp [sEq_refl]

def smKept (x : GKept) : Prop := smClause x.gClause ∧ smCode x.gCode

def wKept (x : GKept) : Nat := wClause x.gClause

theorem szKept {k : Nat} {x : GKept} (hw : maxLen + wKept x < k) (hx : x.ok) (b : Int) (h0 : 0 ≤ b) (h1 : b ≤ Small) : ∃ r, plaws_szKept k x b = some r ∧ -1 ≤ r ∧ r ≤ b ∧ (0 ≤ r → smKept x) := by
  unfold wKept at hw
  unfold plaws_szKept
  obtain ⟨r1, e1, l1, u1, s1⟩ := szClause (k := k) (x := x.gClause) (by omega) hx.1 b h0 (by have := h1; unfold Small at *; omega)
  rw [e1]
  simp only [Option.bind_some]
  by_cases c1 : r1 < 0
  · rw [if_pos (by simpa using c1)]; exact ⟨_, rfl, by omega, by omega, by omega⟩
  rw [if_neg (by simpa using c1)]
  obtain ⟨r2, e2, l2, u2, s2⟩ := szCode (k := k) (x := x.gCode) (by omega) hx.2.1 r1 (by omega) (by have := h1; unfold Small at *; omega)
  rw [e2]
  simp only [Option.bind_some]
  by_cases c2 : r2 < 0
  · rw [if_pos (by simpa using c2)]; exact ⟨_, rfl, by omega, by omega, by omega⟩
  rw [if_neg (by simpa using c2)]
  exact ⟨_, rfl, by omega, by omega, fun h => ⟨s1 (by omega), s2 (by omega)⟩⟩

theorem toKept {k : Nat} {x : GKept} (hw : maxLen + wKept x < k) (hx : smKept x) : plaws_toKept k x = some x := by
  unfold wKept at hw
  unfold plaws_toKept
  rw [toClause (k := k) (x := x.gClause) (by omega) hx.1]
  simp only [Option.bind_some]
  rw [toCode (k := k) (x := x.gCode) (by omega) hx.2]
  simp only [Option.bind_some]

theorem eqKept {k : Nat} {x : GKept} (hw : maxLen + wKept x < k) (hx : x.ok) : plaws_eqKept k x x = some true := by
  unfold wKept at hw
  unfold plaws_eqKept
  rw [eqClause (k := k) (x := x.gClause) (by omega) hx.1]
  rw [eqCode (k := k) (x := x.gCode) (by omega) hx.2.1]
  simp [sEq_refl]
theorem aliveAt (k : Nat) (x : GKept) (a : Int) : ∃ b, pspec_AliveAt k x a = some b ∧ pimpl_AliveAt k x a = some b := by
  unfold pspec_AliveAt pimpl_AliveAt
  (repeat' split) <;> exact ⟨_, rfl, rfl⟩

theorem law (x : GKept) (a : Int) (hx : x.ok) (ha : okI .i64 a) : ∃ k, plaws_FnExactAliveAt k x a = some true := by
  refine ⟨maxLen + wKept x + 1, ?_⟩
  generalize hk : maxLen + wKept x + 1 = k
  have hw : maxLen + wKept x < k := by omega
  unfold plaws_FnExactAliveAt
  obtain ⟨r, h1, h2, h3, h4⟩ := szKept hw hx 1048576 (by omega) (by unfold Small; omega)
  rw [h1]
  simp only [Option.bind_some]
  by_cases hr : r < 0
  · rw [if_pos (by simpa using hr)]
  · rw [if_neg (by simpa using hr)]
    obtain ⟨b, e1, e2⟩ := aliveAt k x a
    simp only [toKept hw (h4 (by omega)), Option.bind_some, e1, e2, eqKept hw hx]
    simp
end FnExactAliveAt
end Go.Proofs.Ytjgagbajgdmocaa

/- Values of calls, told abstractly, with what is held: part 4. -/
import Derived.Test.YtmfimfgdbmjkkaaDoorAvc
set_option linter.unusedVariables false
set_option linter.unusedSimpArgs false
namespace Go.Bv
open Go.RowKit
theorem FnO.un {P : Program} {f : Nat} {args : List AD} {x : AV} {own : OwnL} {outs : List (Nat × AD)} (h : FnO P f args (.v x own) outs) : FnO P f args (.v x []) outs :=
  fun X w us lab hin hX hgt => (h X w us lab hin hX hgt).mono fun e w' ⟨u, X', lab', h1, h2, h3, h4, h5, h6⟩ => ⟨u, X', lab', h1, h2, h3, h4, ⟨h5.1, fun j oe hj => by cases hj⟩, h6⟩
def nsum {α : Type} (n : α → Nat) : List α → Nat
  | [] => 0
  | x :: l => 1 + n x + nsum n l
theorem nsum_len {α : Type} (n : α → Nat) : ∀ l : List α, l.length ≤ nsum n l
  | [] => Nat.le_refl _
  | x :: l => by have := nsum_len n l; simp only [nsum, List.length_cons]; omega
theorem nsum_mem {α : Type} {n : α → Nat} : ∀ {l : List α} {x : α}, x ∈ l → 1 + n x ≤ nsum n l
  | y :: l, x, h => by
    simp only [nsum]
    rcases List.mem_cons.1 h with rfl | h
    · omega
    · have := nsum_mem (n := n) h; omega
theorem nsum_append {α : Type} (n : α → Nat) : ∀ l m : List α, nsum n (l ++ m) = nsum n l + nsum n m
  | [], m => by simp [nsum]
  | x :: l, m => by simp only [List.cons_append, nsum, nsum_append n l m]; omega
def Huge : Nat := 1152921504606846976
theorem cast_succ {n : Nat} (h : n < Huge) : wr.i64 ((n : Int) + 1) = ((n + 1 : Nat) : Int) := by
  unfold Huge at h
  rw [wr_i64 (by omega) (by omega)]
  omega
theorem sz2_loop {α : Type} {l : List α} {f : α → Int → Option Int} {L : Nat → Int → Int → Option (Out Int Int)} {n : α → Nat} (hl : l.length ≤ maxLen)
    (hf : ∀ x ∈ l, ∀ b, 0 ≤ b → b ≤ Small → ∃ r, f x b = some r ∧ -1 ≤ r ∧ (0 ≤ r → r + (n x : Int) ≤ b))
    (hs : ∀ m b i, L (m + 1) b i = if (decide (i < (l.length : Int))) = true then (at' l i).bind fun x => (f x b).bind fun r => if (decide (r < 0)) = true then some (.ret (-1)) else L m r (wr.i64 (i + 1)) else some (.done b)) :
    ∀ (m j : Nat) (b : Int), j ≤ l.length → l.length - j < m → 0 ≤ b → b ≤ Small → ∃ o, L m b (j : Int) = some o ∧ (match o with | .ret r => r = -1 | .done b' => 0 ≤ b' ∧ b' + (nsum n (l.drop j) : Int) ≤ b + ((l.length - j : Nat) : Int))
  | 0, j, b, h1, h2, h3, h4 => by omega
  | m + 1, j, b, h1, h2, h3, h4 => by
    rw [hs]
    by_cases hlt : j < l.length
    · rw [if_pos (by simpa using hlt), at_lt hlt]
      simp only [Option.bind_some]
      obtain ⟨r, hr, hr1, hr2⟩ := hf l[j] (List.getElem_mem hlt) b h3 h4
      rw [hr]
      simp only [Option.bind_some]
      split
      · exact ⟨_, rfl, rfl⟩
      · rename_i h
        simp at h
        have hr3 := hr2 h
        rw [wr_succ hlt hl]
        obtain ⟨o, h5, h6⟩ := sz2_loop hl hf hs m (j + 1) r (by omega) (by omega) h (by omega)
        refine ⟨o, h5, ?_⟩
        cases o with
        | ret r => exact h6
        | done b' =>
          refine ⟨h6.1, ?_⟩
          rw [List.drop_eq_getElem_cons hlt]
          have h7 := h6.2
          simp only [nsum]
          omega
    · rw [if_neg (by simpa using hlt)]
      refine ⟨_, rfl, h3, ?_⟩
      rw [List.drop_of_length_le (by omega)]
      simp only [nsum]; omega
theorem sz2 {α : Type} {l : List α} {f : α → Int → Option Int} {L : Nat → Int → Int → Option (Out Int Int)} {n : α → Nat} (hl : l.length ≤ maxLen)
    (hf : ∀ x ∈ l, ∀ b, 0 ≤ b → b ≤ Small → ∃ r, f x b = some r ∧ -1 ≤ r ∧ (0 ≤ r → r + (n x : Int) ≤ b))
    (hs : ∀ m b i, L (m + 1) b i = if (decide (i < (l.length : Int))) = true then (at' l i).bind fun x => (f x b).bind fun r => if (decide (r < 0)) = true then some (.ret (-1)) else L m r (wr.i64 (i + 1)) else some (.done b))
    {k : Nat} (hk : maxLen < k) (b : Int) (h0 : 0 ≤ b) (h1 : b ≤ Small) : ∃ r, (if (decide ((wr.i64 (b - (l.length : Int))) < 0)) = true then some (-1) else
      (L k (wr.i64 (b - (l.length : Int))) 0).bind fun out => match out with | .ret r => some r | .done b => some b) = some r ∧ -1 ≤ r ∧ (0 ≤ r → r + (nsum n l : Int) ≤ b) := by
  have hm := hl
  rw [maxLen_eq] at hm
  unfold Small at h1
  rw [wr_i64 (by omega) (by omega)]
  split
  · exact ⟨_, rfl, by omega, by omega⟩
  · rename_i h
    simp at h
    obtain ⟨o, h3, h4⟩ := sz2_loop hl hf hs k 0 (b - (l.length : Int)) (by omega) (by omega) (by omega) (by unfold Small; omega)
    rw [show ((0 : Nat) : Int) = 0 from rfl] at h3
    rw [h3]
    cases o with
    | ret r => exact ⟨r, rfl, by omega, by omega⟩
    | done b' =>
      have h5 := h4.2
      rw [List.drop_zero] at h5
      exact ⟨b', rfl, by omega, fun _ => by omega⟩
theorem sz2_flat {α : Type} {l : List α} (hl : l.length ≤ maxLen) (b : Int) (h0 : 0 ≤ b) (h1 : b ≤ Small) :
    ∃ r, (if (decide ((wr.i64 (b - (l.length : Int))) < 0)) = true then some (-1) else some (wr.i64 (b - (l.length : Int)))) = some r ∧ -1 ≤ r ∧ (0 ≤ r → r + (nsum (fun _ : α => 0) l : Int) ≤ b) := by
  have hn : nsum (fun _ : α => 0) l = l.length := by
    clear hl
    induction l with
    | nil => rfl
    | cons x l ih => simp only [nsum, ih, List.length_cons]; omega
  rw [maxLen_eq] at hl
  unfold Small at h1
  rw [wr_i64 (by omega) (by omega), hn]
  split
  · exact ⟨_, rfl, by omega, by omega⟩
  · rename_i h; simp at h; exact ⟨_, rfl, by omega, fun _ => by omega⟩
theorem to2_loop {α : Type} {l : List α} {f : α → Option α} {L : Nat → List α → Int → Option (Out (List α) (List α))} (hl : l.length ≤ 1048576) (hf : ∀ x ∈ l, f x = some x)
    (hs : ∀ m i o, L (m + 1) o i = if (decide (i < (l.length : Int))) = true then (at' l i).bind fun x => (f x).bind fun y => (at' o i).bind fun z => L m (o.set ((i).toNat) y) (wr.i64 (i + 1)) else some (.done o)) :
    ∀ (m n : Nat) (o : List α), n ≤ l.length → l.length - n < m → o.length = l.length → o.take n = l.take n → L m o (n : Int) = some (.done l)
  | 0, n, o, h1, h2, h3, h4 => by omega
  | m + 1, n, o, h1, h2, h3, h4 => by
    rw [hs]
    have hl' : l.length ≤ maxLen := by rw [maxLen_eq]; omega
    by_cases hlt : n < l.length
    · rw [if_pos (by simpa using hlt), at_lt hlt]
      simp only [Option.bind_some, hf _ (List.getElem_mem hlt)]
      rw [at_lt (show n < o.length by omega), wr_succ hlt hl']
      simp only [Option.bind_some]
      refine to2_loop hl hf hs m (n + 1) _ (by omega) (by omega) (by simp [h3]) ?_
      simp only [Int.toNat_natCast]
      apply List.ext_getElem?
      intro j
      rw [List.getElem?_take, List.getElem?_take]
      by_cases hj : j < n + 1
      · rw [if_pos hj, if_pos hj, List.getElem?_set]
        by_cases hjn : n = j
        · subst hjn
          rw [if_pos rfl, if_pos (by omega), List.getElem?_eq_getElem hlt]
        · rw [if_neg hjn]
          have := congrArg (fun q => q[j]?) h4
          simpa [List.getElem?_take, show j < n by omega] using this
      · rw [if_neg hj, if_neg hj]
    · rw [if_neg (by simpa using hlt)]
      have hn : n = l.length := by omega
      subst hn
      rw [List.take_length, ← h3, List.take_length] at h4
      rw [h4]
theorem to2 {α : Type} {l : List α} {f : α → Option α} {L : Nat → List α → Int → Option (Out (List α) (List α))} (hl : l.length ≤ 1048576) (hf : ∀ x ∈ l, f x = some x)
    (hs : ∀ m i o, L (m + 1) o i = if (decide (i < (l.length : Int))) = true then (at' l i).bind fun x => (f x).bind fun y => (at' o i).bind fun z => L m (o.set ((i).toNat) y) (wr.i64 (i + 1)) else some (.done o))
    {k : Nat} (hk : maxLen < k) (z : α) : (0 ≤ (l.length : Int) ∧ (l.length : Int) ≤ 1073741824) ∧ L k (List.replicate ((l.length : Int)).toNat z) 0 = some (.done l) := by
  have hm : l.length ≤ maxLen := by rw [maxLen_eq]; omega
  have := to2_loop hl hf hs k 0 (List.replicate ((l.length : Int)).toNat z) (by omega) (by omega) (by simp) (by simp)
  rw [show ((0 : Nat) : Int) = 0 from rfl] at this
  exact ⟨⟨by omega, by omega⟩, this⟩
theorem to2_flat {α : Type} {l : List α} {L : Nat → List α → Int → Option (Out (List α) (List α))} (hl : l.length ≤ 1048576)
    (hs : ∀ m i o, L (m + 1) o i = if (decide (i < (l.length : Int))) = true then (at' l i).bind fun x => (at' o i).bind fun z => L m (o.set ((i).toNat) x) (wr.i64 (i + 1)) else some (.done o))
    {k : Nat} (hk : maxLen < k) (z : α) : (0 ≤ (l.length : Int) ∧ (l.length : Int) ≤ 1073741824) ∧ L k (List.replicate ((l.length : Int)).toNat z) 0 = some (.done l) :=
  to2 (f := some) hl (fun x _ => rfl) (fun m i o => by rw [hs]; simp only [Option.bind_some]) hk z
theorem eq2 {α : Type} {l : List α} {f : α → α → Option Bool} {L : Nat → Int → Option (Out Bool Unit)} (hl : l.length ≤ Huge) (hf : ∀ x ∈ l, f x x = some true)
    (hs : ∀ m i, L (m + 1) i = if (decide (i < (l.length : Int))) = true then (at' l i).bind fun x => (at' l i).bind fun y => (f x y).bind fun b => if (!b) = true then some (.ret false) else L m (wr.i64 (i + 1)) else some (.done ()))
    {k : Nat} (hk : maxLen < k) : (if ((l.length : Int) != (l.length : Int)) = true then some false else
      (L k 0).bind fun out => match out with | .ret r => some r | .done () => some true) = some true := by
  have hm : l.length ≤ maxLen := by unfold Huge at hl; rw [maxLen_eq]; omega
  have := eq_list hm hf hs hk
  rw [if_neg this.1, this.2]; rfl
theorem eq2_flat {α : Type} {l : List α} {ne : α → α → Bool} {L : Nat → Int → Option (Out Bool Unit)} (hl : l.length ≤ Huge) (hf : ∀ x, ne x x = false)
    (hs : ∀ m i, L (m + 1) i = if (decide (i < (l.length : Int))) = true then (at' l i).bind fun x => (at' l i).bind fun y => if (ne x y) = true then some (.ret false) else L m (wr.i64 (i + 1)) else some (.done ()))
    {k : Nat} (hk : maxLen < k) : (if ((l.length : Int) != (l.length : Int)) = true then some false else
      (L k 0).bind fun out => match out with | .ret r => some r | .done () => some true) = some true := by
  have hm : l.length ≤ maxLen := by unfold Huge at hl; rw [maxLen_eq]; omega
  have := eq_list0 hm hf hs hk
  rw [if_neg this.1, this.2]; rfl
theorem at_is {α : Type} {l : List α} {i : Int} {x y : α} (h : at' l i = some x) : at' (l.set i.toNat y) i = some y := by
  obtain ⟨h1, h2⟩ := at'_spec h
  unfold at'
  rw [if_pos h1, List.getElem?_set]
  have := (List.getElem?_eq_some_iff.1 h2).1
  simp [this]
theorem at_set {α : Type} {l : List α} {j : Nat} {y : α} (h : (at' l (j : Int)).isSome = true) : at' (l.set j y) (j : Int) = some y := by
  obtain ⟨x, hx⟩ := Option.isSome_iff_exists.1 h
  exact at_is hx
theorem at_set_some {α : Type} {l : List α} {j : Nat} {y : α} : (at' (l.set j y) (j : Int)).isSome = (at' l (j : Int)).isSome := by
  rw [at_nat, at_nat, List.getElem?_set]
  by_cases h : j < l.length
  · simp [h]
  · simp [h]
theorem if3 {α : Type} (a b : α) : (if (3 : Int) ≠ 0 then a else b) = a := by simp
def Chain {α : Type} (good : Int → α → Int → Prop) : List α → Int → Int → Prop
  | [], b, c => b = c
  | x :: l, b, c => ∃ d, good b x d ∧ Chain good l d c
theorem mark_loop {α : Type} {n : α → Nat} {good : Int → α → Int → Prop} {L : Nat → Int → Int → List α → Option (Out (List α × Int) (Int × List α))} {ok : α → Prop}
    (hd : ∀ m b l, L (m + 1) b (l.length : Int) l = some (.done (b, l)))
    (hs : ∀ m b (j : Nat) (l : List α) x, ok x → j < Huge → at' l (j : Int) = some x → 1 ≤ b → b + 16 * (1 + (n x : Int)) ≤ Huge →
      ∃ x' c, good b x' c ∧ b ≤ c ∧ c ≤ b + 16 * (1 + (n x : Int)) ∧ (j < l.length → L (m + 1) b (j : Int) l = L m c ((j + 1 : Nat) : Int) (l.set j x'))) :
    ∀ (todo done : List α) (m : Nat) (b : Int), todo.length < m → (∀ x ∈ todo, ok x) → done.length + todo.length ≤ Huge → 1 ≤ b → b + 16 * (nsum n todo : Int) ≤ Huge →
      ∃ todo' c, todo'.length = todo.length ∧ Chain good todo' b c ∧ b ≤ c ∧ c ≤ b + 16 * (nsum n todo : Int) ∧ L m b (done.length : Int) (done ++ todo) = some (.done (c, done ++ todo'))
  | [], done, m + 1, b, h1, h2, h3, h4, h5 => ⟨[], b, rfl, rfl, Int.le_refl _, by simp [nsum], by rw [List.append_nil]; exact hd m b done⟩
  | [], done, 0, b, h1, h2, h3, h4, h5 => by simp at h1
  | x :: todo, done, 0, b, h1, h2, h3, h4, h5 => by simp at h1
  | x :: todo, done, m + 1, b, h1, h2, h3, h4, h5 => by
    simp only [nsum, List.length_cons] at h1 h3 h5
    have hat : at' (done ++ x :: todo) (done.length : Int) = some x := by rw [at_nat]; simp
    obtain ⟨x', c, hg, hc1, hc2, he⟩ := hs m b done.length (done ++ x :: todo) x (h2 x (by simp)) (by omega) hat h4 (by omega)
    obtain ⟨todo', d, e1, e2, e3, e4, e5⟩ := mark_loop hd hs todo (done ++ [x']) m c (by omega) (fun y hy => h2 y (by simp [hy])) (by simp; omega) (by omega) (by omega)
    refine ⟨x' :: todo', d, by simp [e1], ⟨c, hg, e2⟩, by omega, by simp only [nsum]; omega, ?_⟩
    rw [he (by simp)]
    have hset : (done ++ x :: todo).set done.length x' = (done ++ [x']) ++ todo := by simp
    rw [hset]
    rw [List.length_append, List.length_singleton] at e5
    rw [e5]; simp
theorem held_loop {α : Type} {good : Int → α → Int → Prop} {l : List α} {H : Nat → Int → Int → Option (Out Int Int)}
    (hd : ∀ m b, H (m + 1) b (l.length : Int) = some (.done b))
    (hs : ∀ m b c (j : Nat) x, j < Huge → at' l (j : Int) = some x → good b x c → j < l.length → H (m + 1) b (j : Int) = H m c ((j + 1 : Nat) : Int)) :
    ∀ (todo done : List α) (m : Nat) (b c : Int), todo.length < m → l = done ++ todo → l.length ≤ Huge → Chain good todo b c → H m b (done.length : Int) = some (.done c)
  | [], done, m + 1, b, c, h1, h2, h3, h4 => by
    cases h4
    have := hd m b
    rw [h2, List.append_nil] at this
    exact this
  | [], done, 0, b, c, h1, h2, h3, h4 => by simp at h1
  | x :: todo, done, 0, b, c, h1, h2, h3, h4 => by simp at h1
  | x :: todo, done, m + 1, b, c, h1, h2, h3, h4 => by
    obtain ⟨d, hg, hc⟩ := h4
    have hlen := congrArg List.length h2
    simp only [List.length_append, List.length_cons] at h1 hlen
    have hat : at' l (done.length : Int) = some x := by rw [h2, at_nat]; simp
    rw [hs m b d done.length x (by omega) hat hg (by omega)]
    have := held_loop hd hs todo (done ++ [x]) m d c (by omega) (by rw [h2]; simp) h3 hc
    rw [List.length_append, List.length_singleton] at this
    exact this
theorem mark1 {α : Type} {n : α → Nat} {ok : α → Prop} {L : Nat → Int → Int → List α → Option (Out (List α × Int) (Int × List α))}
    (hd : ∀ m b l, L (m + 1) b (l.length : Int) l = some (.done (b, l)))
    (hs : ∀ m b (j : Nat) (l : List α) x, ok x → j < Huge → at' l (j : Int) = some x → 1 ≤ b → b + 16 * (1 + (n x : Int)) ≤ Huge →
      ∃ x' c, b ≤ c ∧ c ≤ b + 16 * (1 + (n x : Int)) ∧ (j < l.length → L (m + 1) b (j : Int) l = L m c ((j + 1 : Nat) : Int) (l.set j x')))
    {k : Nat} (hk : maxLen < k) (l : List α) (hok : ∀ x ∈ l, ok x) (b : Int) (h1 : 1 ≤ b) (h2 : b + 16 * (nsum n l : Int) ≤ Huge) :
    ∃ l' c, L k b 0 l = some (.done (c, l')) ∧ b ≤ c ∧ c ≤ b + 16 * (nsum n l : Int) := by
  have hlen := nsum_len n l
  have hm : maxLen = 9223372036854775807 := maxLen_eq
  have hH : Huge = 1152921504606846976 := rfl
  obtain ⟨l', c, e1, e2, e3, e4, e5⟩ := mark_loop (good := fun _ _ _ => True) hd (fun m b j l x g1 g2 g3 g4 g5 => by
    obtain ⟨x', c, q1, q2, q3⟩ := hs m b j l x g1 g2 g3 g4 g5
    exact ⟨x', c, trivial, q1, q2, q3⟩) l [] k b (by omega) hok (by simp; omega) h1 h2
  exact ⟨l', c, e5, e3, e4⟩
theorem mark2 {α : Type} {n : α → Nat} {ok : α → Prop} (good : Int → α → Int → Prop) {L : Nat → Int → Int → List α → Option (Out (List α × Int) (Int × List α))} {H : List α → Nat → Int → Int → Option (Out Int Int)}
    (hd : ∀ m b l, L (m + 1) b (l.length : Int) l = some (.done (b, l)))
    (hs : ∀ m b (j : Nat) (l : List α) x, ok x → j < Huge → at' l (j : Int) = some x → 1 ≤ b → b + 16 * (1 + (n x : Int)) ≤ Huge →
      ∃ x' c, good b x' c ∧ b ≤ c ∧ c ≤ b + 16 * (1 + (n x : Int)) ∧ (j < l.length → L (m + 1) b (j : Int) l = L m c ((j + 1 : Nat) : Int) (l.set j x')))
    (hd' : ∀ l m b, H l (m + 1) b (l.length : Int) = some (.done b))
    (hs' : ∀ l m b c (j : Nat) x, j < Huge → at' l (j : Int) = some x → good b x c → j < l.length → H l (m + 1) b (j : Int) = H l m c ((j + 1 : Nat) : Int))
    {k : Nat} (hk : maxLen < k) (l : List α) (hok : ∀ x ∈ l, ok x) (b : Int) (h1 : 1 ≤ b) (h2 : b + 16 * (nsum n l : Int) ≤ Huge) :
    ∃ l' c, L k b 0 l = some (.done (c, l')) ∧ H l' k b 0 = some (.done c) ∧ b ≤ c ∧ c ≤ b + 16 * (nsum n l : Int) := by
  have hlen := nsum_len n l
  have hm : maxLen = 9223372036854775807 := maxLen_eq
  have hH : Huge = 1152921504606846976 := rfl
  obtain ⟨l', c, e1, e2, e3, e4, e5⟩ := mark_loop hd hs l [] k b (by omega) hok (by simp; omega) h1 h2
  have := held_loop (hd' l') (hs' l') l' [] k b c (by omega) rfl (by omega) e2
  exact ⟨l', c, e5, this, e3, e4⟩
end Go.Bv

namespace Go.Bv
open Go.RowKit
abbrev aI (x : Int) : AV := .int .i64 x
abbrev tP (n d : Nat) : Nat × (SV × OwnL) := (n, (.ptr d 0, []))
abbrev tV (n : Nat) (v : AV) : Nat × (SV × OwnL) := (n, (.v v, []))
abbrev tI (n : Nat) (x : Int) : Nat × (SV × OwnL) := (n, (.v (.int .i64 x), []))
abbrev tB (n : Nat) (x : Bool) : Nat × (SV × OwnL) := (n, (.v (.bool x), []))
abbrev tS (n : Nat) (x : ByteArray) : Nat × (SV × OwnL) := (n, (.v (.str x), []))
abbrev bC (n : Nat) (l : List AV) : Nat × BX := (n, (.cells l []))
section
variable {En : Env} {st : St} {K : AE → St → Prop} {id : Nat} {ops : Array Oper}
theorem Wc.r3 (hs : List Hint) (fs : List Fix) (st' : St) {obs : List Prop} (hob : AllP obs) (hK : K .normal st')
    (h : aReg En.P En.n ops hs fs st (st'.t.map Prod.fst) (st'.b.map Prod.fst) (st'.g.map Prod.fst) = some (st', obs) := by kernel_rfl) : Wc En (.region id ops false) st K :=
  Wc.region hs fs _ _ _ st' obs h hob hK
theorem Wc.r2 (hs : List Hint) (st' : St) {obs : List Prop} (hob : AllP obs) (hK : K .normal st')
    (h : aReg En.P En.n ops hs [] st (st'.t.map Prod.fst) (st'.b.map Prod.fst) (st'.g.map Prod.fst) = some (st', obs) := by kernel_rfl) : Wc En (.region id ops false) st K :=
  Wc.region hs [] _ _ _ st' obs h hob hK
theorem Wc.r1 (hs : List Hint) (st' : St) (hK : K .normal st')
    (h : aReg En.P En.n ops hs [] st (st'.t.map Prod.fst) (st'.b.map Prod.fst) (st'.g.map Prod.fst) = some (st', []) := by kernel_rfl) : Wc En (.region id ops false) st K :=
  Wc.region hs [] _ _ _ st' [] h .nil hK
theorem Wc.r0 (st' : St) (hK : K .normal st')
    (h : aReg En.P En.n ops [] [] st (st'.t.map Prod.fst) (st'.b.map Prod.fst) (st'.g.map Prod.fst) = some (st', []) := by kernel_rfl) : Wc En (.region id ops false) st K :=
  Wc.region [] [] _ _ _ st' [] h .nil hK
theorem Wc.fx {c : Code} (fs : List Fix) (st' : St) (hc : Wc En c st' K) (h : ((fixes st fs).bind fun s => s.keep (st'.t.map Prod.fst) (st'.b.map Prod.fst) (st'.g.map Prod.fst)) = some st' := by kernel_rfl) : Wc En c st K :=
  Wc.fix fs _ _ _ h hc
theorem Wc.cT {c : Operand} {x y : Code} {b : Bool} (hb : b = true) (h : Wc En x st K) (hc : evV st.look c = some (.bool b) := by kernel_rfl) : Wc En (.cond c x y) st K := Wc.condT hb hc h
theorem Wc.cF {c : Operand} {x y : Code} {b : Bool} (hb : b = false) (h : Wc En y st K) (hc : evV st.look c = some (.bool b) := by kernel_rfl) : Wc En (.cond c x y) st K := Wc.condF hb hc h
end
theorem dn {α β : Type} {x y : α} {z w : β} {p : Prop} (h1 : x = y := by kernel_rfl) (h2 : z = w := by kernel_rfl) : (AE.ret = AE.ret ∨ p) ∧ x = y ∧ z = w := ⟨.inl rfl, h1, h2⟩
theorem FnO.o2 {P : Program} {f : Nat} {fn : Func} {c : Code} {args : List AD} {r : AD} {outs : List (Nat × AD)} (hf : P.funcs[f]? = some fn) (hb : fn.body = some c)
    (h : ∀ w0 X0 Fin pv0 pb gt, Wc ⟨P, w0, X0, Fin, pv0, pb, fn.ntmps, gt⟩ c (entry args) (fun e st => (e = .ret ∨ e = .normal) ∧ (resOf P st fn.results.toList).map Prod.fst = some r ∧ outsOf st 0 args = some outs))
    (h1 : Nat.ble args.length fn.ntmps = true := by kernel_rfl) (h2 : Nat.ble fn.ntmps 1000000 = true := by kernel_rfl) : FnO P f args r outs :=
  FnO.of hf hb (Nat.le_of_ble_eq_true h1) (Nat.le_of_ble_eq_true h2) h
end Go.Bv

namespace Go.Bv
open Go.RowKit
def explL {α : Type} (f : Nat → Option (List α)) : List Nat → Option (List α)
  | [] => some []
  | i :: is => match f i, explL f is with
    | some l, some m => some (l ++ m)
    | _, _ => none
theorem explL_get {α : Type} {f : Nat → Option (List α)} : ∀ {is : List Nat} {L : List α}, explL f is = some L → ∀ i ∈ is, ∃ l, f i = some l ∧ ∀ x ∈ l, x ∈ L
  | [], L, h, i, hi => by cases hi
  | j :: is, L, h, i, hi => by
    rw [explL] at h
    split at h
    · rename_i l m h1 h2
      cases h
      rcases List.mem_cons.1 hi with rfl | hi
      · exact ⟨l, h1, fun x hx => List.mem_append_left _ hx⟩
      · obtain ⟨l', e, h3⟩ := explL_get h2 i hi
        exact ⟨l', e, fun x hx => List.mem_append_right _ (h3 x hx)⟩
    · cases h
theorem explL_all {α : Type} {f : Nat → Option (List α)} : ∀ {is : List Nat} {L : List α}, explL f is = some L → ∀ x ∈ L, ∃ i ∈ is, ∃ l, f i = some l ∧ x ∈ l
  | [], L, h, x, hx => by cases h; cases hx
  | j :: is, L, h, x, hx => by
    rw [explL] at h
    split at h
    · rename_i l m h1 h2
      cases h
      rcases List.mem_append.1 hx with hx | hx
      · exact ⟨j, List.mem_cons_self .., l, h1, hx⟩
      · obtain ⟨i, hi, l', e, h3⟩ := explL_all h2 x hx
        exact ⟨i, List.mem_cons_of_mem _ hi, l', e, h3⟩
    · cases h
def expl (P : Program) (n : Nat) (ops : Array Oper) (hs : List Hint) (fs : List Fix) (ts bs gs : List Nat) : Nat → Array Bool → St → List (List Prop) → Option (List (St × List (List Prop)))
  | 0, _, _, _ => none
  | fuel + 1, listed, st, O =>
    match Region.ready .any ops listed with
    | [] => match (fixes st fs).bind fun s => s.keep ts bs gs with
      | some s' => some [(s', O)]
      | none => none
    | i :: is => explL (fun j => match ops[j]? with
      | some o => match aStep P n ops.toList st o (hs.getD j {}) with
        | some (s, ob) => expl P n ops hs fs ts bs gs fuel (listed.setIfInBounds j true) s (O.set j ob)
        | none => none
      | none => none) (i :: is)
section
variable {En : Env} {Q : Exit → Act → World → Prop} {ops : Array Oper} {hs : List Hint} {fs : List Fix} {ts bs gs : List Nat}
theorem getD_setB {listed : Array Bool} {i j : Nat} {d : Bool} (h : i ≠ j) : (listed.setIfInBounds j true).getD i d = listed.getD i d := by
  simp only [Array.getD_eq_getD_getElem?, Array.getElem?_setIfInBounds]
  rw [if_neg (fun e => h e.symm)]
theorem expl_keeps : ∀ {fuel : Nat} {listed : Array Bool} {st : St} {O : List (List Prop)} {L : List (St × List (List Prop))}, expl En.P En.n ops hs fs ts bs gs fuel listed st O = some L →
    L ≠ [] ∧ ∀ x ∈ L, ∀ i, listed.getD i true = true → x.2[i]? = O[i]?
  | 0, listed, st, O, L, h => by cases h
  | fuel + 1, listed, st, O, L, h => by
    rw [expl] at h
    split at h
    · split at h
      · cases h
        exact ⟨by simp, fun x hx i hi => by rw [List.mem_singleton.1 hx]⟩
      · cases h
    · rename_i i0 is hr
      have hrd : ∀ j ∈ i0 :: is, listed.getD j true = false := fun j hj => by
        rw [← hr] at hj
        exact (ready_iff.1 hj).2.1
      refine ⟨?_, fun x hx i hi => ?_⟩
      · obtain ⟨l, e, hl⟩ := explL_get h i0 (List.mem_cons_self ..)
        split at e
        · split at e
          · obtain ⟨hne, _⟩ := expl_keeps e
            obtain ⟨y, hy⟩ := List.exists_mem_of_ne_nil l hne
            exact List.ne_nil_of_mem (hl y hy)
          · cases e
        · cases e
      · obtain ⟨j, hj, l, e, hxl⟩ := explL_all h x hx
        have hij : i ≠ j := fun e => by rw [e, hrd j hj] at hi; cases hi
        split at e
        · split at e
          · have := (expl_keeps e).2 x hxl i (by rw [getD_setB hij]; exact hi)
            rw [this, List.getElem?_set_ne (fun e => hij e.symm)]
          · cases e
        · cases e
theorem expl_sound {st' : St} {OO : List (List Prop)} (hob : ∀ l ∈ OO, ∀ p ∈ l, p) (hQ : ∀ a w, SR En st'.look a w → Q .normal a w) :
    ∀ (fuel : Nat) (listed : Array Bool) (st : St) (O : List (List Prop)) (L : List (St × List (List Prop))) (a : Act) (w : World), listed.size = ops.size → O.length = ops.size →
      expl En.P En.n ops hs fs ts bs gs (fuel + 1) listed st O = some L → (∀ x ∈ L, x = (st', OO)) → SR En st.look a w → (∀ l ∈ OO, True) → wpAny En.P .any ops Q fuel listed a w
  | fuel, listed, st, O, L, a, w, hsz, hlen, h, hL, hI, _ => by
    have hdone : Region.ready .any ops listed = [] → Q .normal a w := by
      intro hr
      rw [expl, hr] at h
      simp only at h
      split at h
      · rename_i s' hk
        cases h
        have := hL _ (List.mem_singleton.2 rfl)
        cases this
        rw [Option.bind_eq_some_iff] at hk
        obtain ⟨s1, h1, h2⟩ := hk
        exact hQ a w ((fixes_sound hI h1).keep h2)
      · cases h
    cases fuel with
    | zero =>
      refine ⟨?_, ?_⟩
      · rw [expl] at h
        split at h
        · assumption
        · rename_i i0 is hr
          obtain ⟨l, e, hl⟩ := explL_get h i0 (List.mem_cons_self ..)
          split at e
          · split at e
            · cases e
            · cases e
          · cases e
      · refine hdone ?_
        rw [expl] at h
        split at h
        · assumption
        · rename_i i0 is hr
          obtain ⟨l, e, hl⟩ := explL_get h i0 (List.mem_cons_self ..)
          split at e
          · split at e
            · cases e
            · cases e
          · cases e
    | succ fuel =>
      refine ⟨hdone, fun i hi => ?_⟩
      obtain ⟨hilt, hun, o, ho, _⟩ := ready_iff.1 hi
      have ho' : ops[i]? = some o := by simpa using ho
      rw [expl] at h
      split at h
      · rename_i hr
        rw [hr] at hi; cases hi
      · rename_i i0 is hr
        rw [hr] at hi
        obtain ⟨l, e, hl⟩ := explL_get h i hi
        rw [ho'] at e
        simp only at e
        split at e
        · rename_i s ob hst
          obtain ⟨hne, hkp⟩ := expl_keeps e
          obtain ⟨y, hy⟩ := List.exists_mem_of_ne_nil l hne
          have hy' := hL y (hl y hy)
          have hobs : ∀ p ∈ ob, p := by
            have h1 := hkp y hy i (by
              simp only [Array.getD_eq_getD_getElem?, Array.getElem?_setIfInBounds]
              rw [if_pos trivial, if_pos (by omega)]; rfl)
            rw [List.getElem?_set_self (by omega)] at h1
            rw [hy'] at h1
            exact hob ob (List.mem_of_getElem? h1)
          unfold wpOp
          rw [ho']
          simp only
          exact aStep_sound hI hst hobs (fun a' w' hI' => expl_sound hob hQ fuel _ s _ l a' w' (by simp [hsz]) (by simp [hlen]) e (fun x hx => hL x (hl x hx)) hI' (fun _ _ => trivial))
        · cases e
end
def AllPP : List (List Prop) → Prop
  | [] => True
  | l :: ls => AllP l ∧ AllPP ls
theorem AllPP.nil : AllPP [] := trivial
theorem AllPP.cons {l : List Prop} {ls : List (List Prop)} (h : AllP l) (hs : AllPP ls) : AllPP (l :: ls) := ⟨h, hs⟩
theorem AllPP.mem : ∀ {ls : List (List Prop)}, AllPP ls → ∀ l ∈ ls, ∀ p ∈ l, p
  | [], _, l, hl => by cases hl
  | m :: ms, h, l, hl => by
    rcases List.mem_cons.1 hl with rfl | hl
    · exact h.1.mem
    · exact AllPP.mem h.2 l hl
theorem Wc.every {En : Env} (hm : En.P.follows .mixedOrders = true) {st : St} {K : AE → St → Prop} {id : Nat} {ops : Array Oper} (hs : List Hint) (fs : List Fix) (ts bs gs : List Nat) (st' : St) (OO : List (List Prop)) (N : Nat)
    (h : expl En.P En.n ops hs fs ts bs gs (ops.size + 1) (Array.replicate ops.size false) st (List.replicate ops.size []) = some (List.replicate N (st', OO))) (hob : AllPP OO) (hK : K .normal st') : Wc En (.region id ops true) st K := by
  intro a w hI Q hQ
  refine wp_region_any hm ?_
  obtain ⟨G, hI⟩ := hI
  exact expl_sound hob.mem (fun a' w' hI' => hQ .normal st' a' w' hK hI') ops.size _ st _ _ a _ (by simp) (by simp) h (fun x hx => List.eq_of_mem_replicate hx) ⟨G, hI.drawn⟩ (fun _ _ => trivial)
def regIn (id : Nat) : Code → Option (Array Oper)
  | .region i ops _ => match Nat.beq i id with | true => some ops | false => none
  | .seq a b => match regIn id a with | some x => some x | none => regIn id b
  | .cond _ a b => match regIn id a with | some x => some x | none => regIn id b
  | .block _ a => regIn id a
  | .loop a => regIn id a
  | _ => none
def regOps (id : Nat) (f : Func) : Array Oper := match f.body with | some c => (match regIn id c with | some x => x | none => #[]) | none => #[]
def DrawOk (P : Program) (n : Nat) (ops : Array Oper) (hs : List Hint) (fs : List Fix) (st : St) (ts bs gs : List Nat) (st' : St) : Prop :=
  ∃ obs, aDraw Look.none P n ops hs fs st ts bs gs = some (st', obs) ∧ AllP obs ∧ ∀ X, dRun X P n ops.toList ops.toList hs st = dRun Look.none P n ops.toList ops.toList hs st
theorem Wc.drawAt {En : Env} (hm : En.P.follows .mixedOrders = true) {st : St} {K : AE → St → Prop} {c : Code} {id : Nat} {ops : Array Oper} {hs : List Hint} {fs : List Fix} {ts bs gs : List Nat} {st' : St}
    (H : DrawOk En.P En.n ops hs fs st ts bs gs st') (hc : c = .region id ops true) (hK : K .normal st') : Wc En c st K := by
  obtain ⟨obs, h, hob, hx⟩ := H
  rw [hc]
  exact Wc.draw hm hs fs ts bs gs st' obs h hx hob hK
end Go.Bv


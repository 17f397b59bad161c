/- Values of calls, told abstractly, with what is held: part 4. -/
import Derived.Test.YtbchncaolapbhaaGreatDoorAvc
import Derived.Deep.AppendSrc
set_option linter.unusedVariables false
set_option linter.unusedSimpArgs false
namespace Go.Bv
open Go.RowKit
theorem Fr.below {w w' : World} (h : Fr (fun b => ∃ q : Nat × Nat, (none : Option (Nat × Nat)) = some q) w w') : Below w.heap.size w w' :=
  ⟨h.os, h.tape, h.output, h.size, fun b hb => h.block b hb (fun ⟨q, hq⟩ => by cases hq)⟩
theorem cI.i64_scal (x : Int) : (cI.i64 x).all scal1 = true := rfl
theorem cI.i32_scal (x : Int) : (cI.i32 x).all scal1 = true := rfl
theorem cI.u8_scal (x : Int) : (cI.u8 x).all scal1 = true := rfl
theorem cI.u64_scal (x : Int) : (cI.u64 x).all scal1 = true := rfl
theorem cB_scal (x : Bool) : (cB x).all scal1 = true := rfl
theorem cS_scal (x : ByteArray) : (cS x).all scal1 = true := rfl
section
variable {α : Type} {c : α → List AV} {l : List α} {i : Nat} {x nx : α} {e e' new : List AV} {sz off s o : Nat} {ag : Bool} {v : AV}
theorem map_get (he : c x = e) (hx : l[i]? = some x) : (l.map c)[i]? = some e := by rw [List.getElem?_map, hx, ← he]; rfl
theorem el_obl (he : c x = e) (hx : l[i]? = some x) (h1 : e.length = sz) (h2 : off + s ≤ e.length) (h3 : ofCells ag ((e.drop off).take s) = some v) :
    ∃ r, (l.map c)[i]? = some r ∧ r.length = sz ∧ off + s ≤ r.length ∧ ofCells ag ((r.drop off).take s) = some v := ⟨e, map_get he hx, h1, h2, h3⟩
theorem el_oblD (he : c x = e) (hx : l[i]? = some x) (h1 : e.length = sz) (h2 : off + s ≤ e.length) (h3 : ofCells ag (((e.drop off).take s).map mask1) = some v) :
    ∃ r, (l.map c)[i]? = some r ∧ r.length = sz ∧ off + s ≤ r.length ∧ ofCells ag (((r.drop off).take s).map mask1) = some v := ⟨e, map_get he hx, h1, h2, h3⟩
theorem st_obl (he : c x = e) (hx : l[i]? = some x) (h1 : e.length = sz) (h2 : off + s ≤ e.length) : ∃ r, (l.map c)[i]? = some r ∧ r.length = sz ∧ off + s ≤ r.length := ⟨e, map_get he hx, h1, h2⟩
theorem ix_obl {m : Int} (hl : ∀ x, (c x).length = s) (h : at' l m = some x) : 0 ≤ m ∧ ∃ r, (l.map c)[m.toNat]? = some r ∧ r.length = s := by
  obtain ⟨h1, h2⟩ := at'_spec h
  exact ⟨h1, c x, map_get rfl h2, hl x⟩
theorem getC_cons {i sz o : Nat} {π : Path} {root xs : List (List AV)} : getC root ((i, sz, o) :: π) = some xs ↔ ∃ r ys, root[i]? = some r ∧ Nat.beq r.length sz = true ∧ r[o]? = some (.sl ys) ∧ getC ys π = some xs := by
  simp only [getC]
  constructor
  · intro h
    split at h
    · rename_i r hr
      split at h
      · rename_i ys hb hc; exact ⟨r, ys, hr, hb, hc, h⟩
      · cases h
    · cases h
  · rintro ⟨r, ys, hr, hb, hc, h⟩
    simp only [hr, hb, hc, h]
theorem getC_app {ρ : Path} {zs : List (List AV)} : ∀ {π : Path} {root xs : List (List AV)}, getC root π = some xs → getC xs ρ = some zs → getC root (π ++ ρ) = some zs
  | [], root, xs, h, h2 => by simp only [getC, Option.some.injEq] at h; subst h; exact h2
  | (i, sz, o) :: π, root, xs, h, h2 => by
    obtain ⟨r, ys, hr, hb, hc, h⟩ := getC_cons.1 h
    rw [List.cons_append]
    exact getC_cons.2 ⟨r, ys, hr, hb, hc, getC_app h h2⟩
theorem getC_obl {root : List (List AV)} {π : Path} {ys : List (List AV)} (he : c x = e) (hx : l[i]? = some x) (hs : Nat.beq e.length sz = true) (ho : e[o]? = some (.sl ys)) (hp : getC root π = some (l.map c)) : getC root (π ++ [(i, sz, o)]) = some ys := by
  exact getC_app hp (getC_cons.2 ⟨e, ys, map_get he hx, hs, ho, rfl⟩)
theorem mod_obl (he : c x = e) (hn : c nx = e') (hx : l[i]? = some x) (h : setAll e off new = e') : (l.map c).modify i (fun r => setAll r off new) = (l.set i nx).map c := by
  apply List.ext_getElem?
  intro j
  rw [List.getElem?_modify, List.getElem?_map, List.getElem?_map, List.getElem?_set]
  by_cases hij : i = j
  · subst hij
    have hlt : i < l.length := (List.getElem?_eq_some_iff.1 hx).1
    simp only [if_true, hx, if_pos hlt]
    show some (setAll (c x) off new) = some (c nx)
    rw [he, h, hn]
  · simp only [if_neg hij]
    cases l[j]? <;> rfl
theorem app_re2 (c : α → List AV) (xs ys : List α) : xs.map c ++ ys.map c = (xs ++ ys).map c := by rw [List.map_append]
theorem app_leaf {ys : List α} (hf : ∀ x, (c x).all AV.leaf = true) : ∀ r ∈ ys.map c, r.all AV.leaf = true := by
  intro r hr; obtain ⟨x, _, rfl⟩ := List.mem_map.1 hr; exact hf x
theorem app_scal {ys : List α} (hf : ∀ x, (c x).all scal1 = true) : ∀ r ∈ ys.map c, r.all scal1 = true := by
  intro r hr; obtain ⟨x, _, rfl⟩ := List.mem_map.1 hr; exact hf x
theorem app_obl2 {xs ys : List α} (hl : ∀ x, (c x).length = s) (h : xs.length + ys.length ≤ 1073741824) :
    (xs.map c).length + (ys.map c).length ≤ 1073741824 ∧ (∀ r ∈ xs.map c, r.length = s) ∧ ∀ r ∈ ys.map c, r.length = s :=
  ⟨by rw [List.length_map, List.length_map]; exact h, mem_len hl, mem_len hl⟩
theorem app_re0 (c : α → List AV) (ys : List α) : ([] : List (List AV)) ++ ys.map c = ys.map c := rfl
theorem bytes_obl (ns : List Int) : ∃ ms : List Int, ns.map cI.u8 = ms.map (fun n => [.int .u8 n]) ∧ strOfNums ns = strOfNums ms := ⟨ns, rfl, rfl⟩
theorem seg_obl {n : List AV} (he : c x = e) (hx : l[i]? = some x) (h1 : e.length = sz) (h2 : off + n.length ≤ sz) (h3 : (e.drop off).take n.length = n) :
    ∃ r, (l.map c)[i]? = some r ∧ r.length = sz ∧ off + n.length ≤ sz ∧ (r.drop off).take n.length = n := ⟨e, map_get he hx, h1, h2, h3⟩
theorem own_obl {own : OwnL} {p : OP} {m sz off : Nat} {js : List Nat} (h : own = segOwn p m sz off js) : own = segOwn p m sz off js := h
theorem sl_oblv0 {lo hi : Int} (hl : ∀ x, (c x).length = s) (h : 0 ≤ lo ∧ lo ≤ hi ∧ hi ≤ (l.length : Int)) :
    0 ≤ lo ∧ lo ≤ hi ∧ hi ≤ ((l.map c).length : Int) ∧ (∀ r ∈ l.map c, r.length = s) ∧ AV.sl (((l.map c).take hi.toNat).drop lo.toNat) = AV.sl ((sub3 l lo hi).map c) :=
  ⟨h.1, h.2.1, by rw [List.length_map]; exact h.2.2, mem_len hl, sl_re0 c l lo hi⟩
theorem sl_oblv1 {lo : Int} (hl : ∀ x, (c x).length = s) (h : 0 ≤ lo ∧ lo ≤ (l.length : Int) ∧ (l.length : Int) ≤ (l.length : Int)) :
    0 ≤ lo ∧ lo ≤ ((l.map c).length : Int) ∧ ((l.map c).length : Int) ≤ ((l.map c).length : Int) ∧ (∀ r ∈ l.map c, r.length = s) ∧ AV.sl (((l.map c).take ((l.map c).length : Int).toNat).drop lo.toNat) = AV.sl ((sub3 l lo (l.length : Int)).map c) :=
  ⟨h.1, by rw [List.length_map]; exact h.2.1, Int.le_refl _, mem_len hl, sl_re1 c l lo⟩
theorem take_re {α : Type} (c : α → List AV) (l : List α) (m : Int) : (l.map c).take m.toNat = (l.take m.toNat).map c := List.map_take.symm
theorem take_obl {m : Int} (h : 0 ≤ m ∧ m ≤ (l.length : Int)) : 0 ≤ m ∧ m ≤ ((l.map c).length : Int) := by rw [List.length_map]; exact h
theorem part_obl0 {lo hi : Int} (h : 0 ≤ lo ∧ lo ≤ hi ∧ hi ≤ (l.length : Int)) : 0 ≤ lo ∧ lo ≤ hi ∧ hi ≤ ((l.map c).length : Int) := by rw [List.length_map]; exact h
theorem part_obl1 {lo : Int} (h : 0 ≤ lo ∧ lo ≤ (l.length : Int) ∧ (l.length : Int) ≤ (l.length : Int)) : 0 ≤ lo ∧ lo ≤ ((l.map c).length : Int) ∧ ((l.map c).length : Int) ≤ ((l.map c).length : Int) := by rw [List.length_map]; exact h
end
instance (x y : ByteArray) : Decidable (sumOk x y) := by unfold sumOk; infer_instance
def anyO : OwnL → OwnL
  | [] => []
  | (j, .ex _ dp xs) :: l => (j, .ex anyT dp xs) :: anyO l
  | q :: l => q :: anyO l
def AD.any : AD → AD
  | .io x own => .io x (anyO own)
  | q => q
theorem mem_anyO {j : Nat} {oe : OE} : ∀ {own : OwnL}, (j, oe) ∈ anyO own → (j, oe) ∈ own ∨ ∃ e dp xs, oe = .ex anyT dp xs ∧ (j, OE.ex e dp xs) ∈ own
  | [], h => by cases h
  | (k, x) :: l, h => by
    cases x with
    | ex e dp xs =>
      rcases List.mem_cons.1 h with h | h
      · cases h; exact .inr ⟨e, dp, xs, rfl, by simp⟩
      · rcases mem_anyO h with h | ⟨e, dp, xs, h1, h2⟩
        · exact .inl (by simp [h])
        · exact .inr ⟨e, dp, xs, h1, by simp [h2]⟩
    | app e =>
      rcases List.mem_cons.1 h with h | h
      · cases h; exact .inl (by simp)
      · rcases mem_anyO h with h | ⟨e, dp, xs, h1, h2⟩
        · exact .inl (by simp [h])
        · exact .inr ⟨e, dp, xs, h1, by simp [h2]⟩
    | al p π =>
      rcases List.mem_cons.1 h with h | h
      · cases h; exact .inl (by simp)
      · rcases mem_anyO h with h | ⟨e, dp, xs, h1, h2⟩
        · exact .inl (by simp [h])
        · exact .inr ⟨e, dp, xs, h1, by simp [h2]⟩
    | sb p π lo sz n =>
      rcases List.mem_cons.1 h with h | h
      · cases h; exact .inl (by simp)
      · rcases mem_anyO h with h | ⟨e, dp, xs, h1, h2⟩
        · exact .inl (by simp [h])
        · exact .inr ⟨e, dp, xs, h1, by simp [h2]⟩
theorem AIn.any {P : Program} {X : Gh} {w : World} {lab : Lab} {i : Nat} {q : AD} {u : Value} (h : AIn P X w lab i q u) : AIn P X w lab i q.any u := by
  cases q with
  | v x own => exact h
  | p cs own => exact h
  | io x own =>
    refine ⟨h.1, fun j oe hj => ?_⟩
    rcases mem_anyO hj with hj | ⟨e, dp, xs, rfl, hj'⟩
    · exact h.2 j oe hj
    · obtain ⟨_, c, F, h1, ⟨e', sz, us, F', h0, hr⟩, h3⟩ := h.2 j _ hj'
      exact ⟨rfl, c, F, h1, ⟨e', sz, us, F', .inr rfl, hr⟩, h3⟩
theorem AIns.any {P : Program} {X : Gh} {w : World} {lab : Lab} : ∀ {i : Nat} {qs : List AD} {us : List Value}, AIns P X w lab i qs us → AIns P X w lab i (qs.map AD.any) us
  | i, [], us, h => h
  | i, q :: qs, us, ⟨u, r, e, h1, h2⟩ => ⟨u, r, e, h1.any, h2.any⟩
theorem FnO.any {P : Program} {f : Nat} {args : List AD} {r : AD} {outs : List (Nat × AD)} (h : FnO P f (args.map AD.any) r outs) : FnO P f args r outs :=
  fun X w us lab hin hX => h X w us lab hin.any hX
end Go.Bv

namespace Go.Bv
open Go.RowKit
theorem FnO.un {P : Program} {f : Nat} {args : List AD} {x : AV} {own : OwnL} {outs : List (Nat × AD)} (h : FnO P f args (.v x own) outs) : FnO P f args (.v x []) outs :=
  fun X w us lab hin hX hgt => (h X w us lab hin hX hgt).mono fun e w' ⟨u, X', lab', h1, h2, h3, h4, h5, h6⟩ => ⟨u, X', lab', h1, h2, h3, h4, ⟨h5.1, fun j oe hj => by cases hj⟩, h6⟩
def nsum {α : Type} (n : α → Nat) : List α → Nat
  | [] => 0
  | x :: l => 1 + n x + nsum n l
theorem nsum_len {α : Type} (n : α → Nat) : ∀ l : List α, l.length ≤ nsum n l
  | [] => Nat.le_refl _
  | x :: l => by have := nsum_len n l; simp only [nsum, List.length_cons]; omega
theorem nsum_mem {α : Type} {n : α → Nat} : ∀ {l : List α} {x : α}, x ∈ l → 1 + n x ≤ nsum n l
  | y :: l, x, h => by
    simp only [nsum]
    rcases List.mem_cons.1 h with rfl | h
    · omega
    · have := nsum_mem (n := n) h; omega
theorem nsum_append {α : Type} (n : α → Nat) : ∀ l m : List α, nsum n (l ++ m) = nsum n l + nsum n m
  | [], m => by simp [nsum]
  | x :: l, m => by simp only [List.cons_append, nsum, nsum_append n l m]; omega
def Huge : Nat := 1152921504606846976
theorem cast_succ {n : Nat} (h : n < Huge) : wr.i64 ((n : Int) + 1) = ((n + 1 : Nat) : Int) := by
  unfold Huge at h
  rw [wr_i64 (by omega) (by omega)]
  omega
theorem sz2_loop {α : Type} {l : List α} {f : α → Int → Option Int} {L : Nat → Int → Int → Option (Out Int Int)} {n : α → Nat} (hl : l.length ≤ maxLen)
    (hf : ∀ x ∈ l, ∀ b, 0 ≤ b → b ≤ Small → ∃ r, f x b = some r ∧ -1 ≤ r ∧ (0 ≤ r → r + (n x : Int) ≤ b))
    (hs : ∀ m b i, L (m + 1) b i = if (decide (i < (l.length : Int))) = true then (at' l i).bind fun x => (f x b).bind fun r => if (decide (r < 0)) = true then some (.ret (-1)) else L m r (wr.i64 (i + 1)) else some (.done b)) :
    ∀ (m j : Nat) (b : Int), j ≤ l.length → l.length - j < m → 0 ≤ b → b ≤ Small → ∃ o, L m b (j : Int) = some o ∧ (match o with | .ret r => r = -1 | .done b' => 0 ≤ b' ∧ b' + (nsum n (l.drop j) : Int) ≤ b + ((l.length - j : Nat) : Int))
  | 0, j, b, h1, h2, h3, h4 => by omega
  | m + 1, j, b, h1, h2, h3, h4 => by
    rw [hs]
    by_cases hlt : j < l.length
    · rw [if_pos (by simpa using hlt), at_lt hlt]
      simp only [Option.bind_some]
      obtain ⟨r, hr, hr1, hr2⟩ := hf l[j] (List.getElem_mem hlt) b h3 h4
      rw [hr]
      simp only [Option.bind_some]
      split
      · exact ⟨_, rfl, rfl⟩
      · rename_i h
        simp at h
        have hr3 := hr2 h
        rw [wr_succ hlt hl]
        obtain ⟨o, h5, h6⟩ := sz2_loop hl hf hs m (j + 1) r (by omega) (by omega) h (by omega)
        refine ⟨o, h5, ?_⟩
        cases o with
        | ret r => exact h6
        | done b' =>
          refine ⟨h6.1, ?_⟩
          rw [List.drop_eq_getElem_cons hlt]
          have h7 := h6.2
          simp only [nsum]
          omega
    · rw [if_neg (by simpa using hlt)]
      refine ⟨_, rfl, h3, ?_⟩
      rw [List.drop_of_length_le (by omega)]
      simp only [nsum]; omega
theorem sz2 {α : Type} {l : List α} {f : α → Int → Option Int} {L : Nat → Int → Int → Option (Out Int Int)} {n : α → Nat} (hl : l.length ≤ maxLen)
    (hf : ∀ x ∈ l, ∀ b, 0 ≤ b → b ≤ Small → ∃ r, f x b = some r ∧ -1 ≤ r ∧ (0 ≤ r → r + (n x : Int) ≤ b))
    (hs : ∀ m b i, L (m + 1) b i = if (decide (i < (l.length : Int))) = true then (at' l i).bind fun x => (f x b).bind fun r => if (decide (r < 0)) = true then some (.ret (-1)) else L m r (wr.i64 (i + 1)) else some (.done b))
    {k : Nat} (hk : maxLen < k) (b : Int) (h0 : 0 ≤ b) (h1 : b ≤ Small) : ∃ r, (if (decide ((wr.i64 (b - (l.length : Int))) < 0)) = true then some (-1) else
      (L k (wr.i64 (b - (l.length : Int))) 0).bind fun out => match out with | .ret r => some r | .done b => some b) = some r ∧ -1 ≤ r ∧ (0 ≤ r → r + (nsum n l : Int) ≤ b) := by
  have hm := hl
  rw [maxLen_eq] at hm
  unfold Small at h1
  rw [wr_i64 (by omega) (by omega)]
  split
  · exact ⟨_, rfl, by omega, by omega⟩
  · rename_i h
    simp at h
    obtain ⟨o, h3, h4⟩ := sz2_loop hl hf hs k 0 (b - (l.length : Int)) (by omega) (by omega) (by omega) (by unfold Small; omega)
    rw [show ((0 : Nat) : Int) = 0 from rfl] at h3
    rw [h3]
    cases o with
    | ret r => exact ⟨r, rfl, by omega, by omega⟩
    | done b' =>
      have h5 := h4.2
      rw [List.drop_zero] at h5
      exact ⟨b', rfl, by omega, fun _ => by omega⟩
theorem sz2_flat {α : Type} {l : List α} (hl : l.length ≤ maxLen) (b : Int) (h0 : 0 ≤ b) (h1 : b ≤ Small) :
    ∃ r, (if (decide ((wr.i64 (b - (l.length : Int))) < 0)) = true then some (-1) else some (wr.i64 (b - (l.length : Int)))) = some r ∧ -1 ≤ r ∧ (0 ≤ r → r + (nsum (fun _ : α => 0) l : Int) ≤ b) := by
  have hn : nsum (fun _ : α => 0) l = l.length := by
    clear hl
    induction l with
    | nil => rfl
    | cons x l ih => simp only [nsum, ih, List.length_cons]; omega
  rw [maxLen_eq] at hl
  unfold Small at h1
  rw [wr_i64 (by omega) (by omega), hn]
  split
  · exact ⟨_, rfl, by omega, by omega⟩
  · rename_i h; simp at h; exact ⟨_, rfl, by omega, fun _ => by omega⟩
theorem to2_loop {α : Type} {l : List α} {f : α → Option α} {L : Nat → List α → Int → Option (Out (List α) (List α))} (hl : l.length ≤ 1048576) (hf : ∀ x ∈ l, f x = some x)
    (hs : ∀ m i o, L (m + 1) o i = if (decide (i < (l.length : Int))) = true then (at' l i).bind fun x => (f x).bind fun y => (at' o i).bind fun z => L m (o.set ((i).toNat) y) (wr.i64 (i + 1)) else some (.done o)) :
    ∀ (m n : Nat) (o : List α), n ≤ l.length → l.length - n < m → o.length = l.length → o.take n = l.take n → L m o (n : Int) = some (.done l)
  | 0, n, o, h1, h2, h3, h4 => by omega
  | m + 1, n, o, h1, h2, h3, h4 => by
    rw [hs]
    have hl' : l.length ≤ maxLen := by rw [maxLen_eq]; omega
    by_cases hlt : n < l.length
    · rw [if_pos (by simpa using hlt), at_lt hlt]
      simp only [Option.bind_some, hf _ (List.getElem_mem hlt)]
      rw [at_lt (show n < o.length by omega), wr_succ hlt hl']
      simp only [Option.bind_some]
      refine to2_loop hl hf hs m (n + 1) _ (by omega) (by omega) (by simp [h3]) ?_
      simp only [Int.toNat_natCast]
      apply List.ext_getElem?
      intro j
      rw [List.getElem?_take, List.getElem?_take]
      by_cases hj : j < n + 1
      · rw [if_pos hj, if_pos hj, List.getElem?_set]
        by_cases hjn : n = j
        · subst hjn
          rw [if_pos rfl, if_pos (by omega), List.getElem?_eq_getElem hlt]
        · rw [if_neg hjn]
          have := congrArg (fun q => q[j]?) h4
          simpa [List.getElem?_take, show j < n by omega] using this
      · rw [if_neg hj, if_neg hj]
    · rw [if_neg (by simpa using hlt)]
      have hn : n = l.length := by omega
      subst hn
      rw [List.take_length, ← h3, List.take_length] at h4
      rw [h4]
theorem to2 {α : Type} {l : List α} {f : α → Option α} {L : Nat → List α → Int → Option (Out (List α) (List α))} (hl : l.length ≤ 1048576) (hf : ∀ x ∈ l, f x = some x)
    (hs : ∀ m i o, L (m + 1) o i = if (decide (i < (l.length : Int))) = true then (at' l i).bind fun x => (f x).bind fun y => (at' o i).bind fun z => L m (o.set ((i).toNat) y) (wr.i64 (i + 1)) else some (.done o))
    {k : Nat} (hk : maxLen < k) (z : α) : (0 ≤ (l.length : Int) ∧ (l.length : Int) ≤ 1073741824) ∧ L k (List.replicate ((l.length : Int)).toNat z) 0 = some (.done l) := by
  have hm : l.length ≤ maxLen := by rw [maxLen_eq]; omega
  have := to2_loop hl hf hs k 0 (List.replicate ((l.length : Int)).toNat z) (by omega) (by omega) (by simp) (by simp)
  rw [show ((0 : Nat) : Int) = 0 from rfl] at this
  exact ⟨⟨by omega, by omega⟩, this⟩
theorem to2_flat {α : Type} {l : List α} {L : Nat → List α → Int → Option (Out (List α) (List α))} (hl : l.length ≤ 1048576)
    (hs : ∀ m i o, L (m + 1) o i = if (decide (i < (l.length : Int))) = true then (at' l i).bind fun x => (at' o i).bind fun z => L m (o.set ((i).toNat) x) (wr.i64 (i + 1)) else some (.done o))
    {k : Nat} (hk : maxLen < k) (z : α) : (0 ≤ (l.length : Int) ∧ (l.length : Int) ≤ 1073741824) ∧ L k (List.replicate ((l.length : Int)).toNat z) 0 = some (.done l) :=
  to2 (f := some) hl (fun x _ => rfl) (fun m i o => by rw [hs]; simp only [Option.bind_some]) hk z
theorem eq2 {α : Type} {l : List α} {f : α → α → Option Bool} {L : Nat → Int → Option (Out Bool Unit)} (hl : l.length ≤ Huge) (hf : ∀ x ∈ l, f x x = some true)
    (hs : ∀ m i, L (m + 1) i = if (decide (i < (l.length : Int))) = true then (at' l i).bind fun x => (at' l i).bind fun y => (f x y).bind fun b => if (!b) = true then some (.ret false) else L m (wr.i64 (i + 1)) else some (.done ()))
    {k : Nat} (hk : maxLen < k) : (if ((l.length : Int) != (l.length : Int)) = true then some false else
      (L k 0).bind fun out => match out with | .ret r => some r | .done () => some true) = some true := by
  have hm : l.length ≤ maxLen := by unfold Huge at hl; rw [maxLen_eq]; omega
  have := eq_list hm hf hs hk
  rw [if_neg this.1, this.2]; rfl
theorem eq2_flat {α : Type} {l : List α} {ne : α → α → Bool} {L : Nat → Int → Option (Out Bool Unit)} (hl : l.length ≤ Huge) (hf : ∀ x, ne x x = false)
    (hs : ∀ m i, L (m + 1) i = if (decide (i < (l.length : Int))) = true then (at' l i).bind fun x => (at' l i).bind fun y => if (ne x y) = true then some (.ret false) else L m (wr.i64 (i + 1)) else some (.done ()))
    {k : Nat} (hk : maxLen < k) : (if ((l.length : Int) != (l.length : Int)) = true then some false else
      (L k 0).bind fun out => match out with | .ret r => some r | .done () => some true) = some true := by
  have hm : l.length ≤ maxLen := by unfold Huge at hl; rw [maxLen_eq]; omega
  have := eq_list0 hm hf hs hk
  rw [if_neg this.1, this.2]; rfl
theorem at_is {α : Type} {l : List α} {i : Int} {x y : α} (h : at' l i = some x) : at' (l.set i.toNat y) i = some y := by
  obtain ⟨h1, h2⟩ := at'_spec h
  unfold at'
  rw [if_pos h1, List.getElem?_set]
  have := (List.getElem?_eq_some_iff.1 h2).1
  simp [this]
theorem at_set {α : Type} {l : List α} {j : Nat} {y : α} (h : (at' l (j : Int)).isSome = true) : at' (l.set j y) (j : Int) = some y := by
  obtain ⟨x, hx⟩ := Option.isSome_iff_exists.1 h
  exact at_is hx
theorem at_set_some {α : Type} {l : List α} {j : Nat} {y : α} : (at' (l.set j y) (j : Int)).isSome = (at' l (j : Int)).isSome := by
  rw [at_nat, at_nat, List.getElem?_set]
  by_cases h : j < l.length
  · simp [h]
  · simp [h]
theorem if3 {α : Type} (a b : α) : (if (3 : Int) ≠ 0 then a else b) = a := by simp
def Chain {α : Type} (good : Int → α → Int → Prop) : List α → Int → Int → Prop
  | [], b, c => b = c
  | x :: l, b, c => ∃ d, good b x d ∧ Chain good l d c
theorem mark_loop {α : Type} {n : α → Nat} {good : Int → α → Int → Prop} {L : Nat → Int → Int → List α → Option (Out (List α × Int) (Int × List α))} {ok : α → Prop}
    (hd : ∀ m b l, L (m + 1) b (l.length : Int) l = some (.done (b, l)))
    (hs : ∀ m b (j : Nat) (l : List α) x, ok x → j < Huge → at' l (j : Int) = some x → 1 ≤ b → b + 16 * (1 + (n x : Int)) ≤ Huge →
      ∃ x' c, good b x' c ∧ b ≤ c ∧ c ≤ b + 16 * (1 + (n x : Int)) ∧ (j < l.length → L (m + 1) b (j : Int) l = L m c ((j + 1 : Nat) : Int) (l.set j x'))) :
    ∀ (todo done : List α) (m : Nat) (b : Int), todo.length < m → (∀ x ∈ todo, ok x) → done.length + todo.length ≤ Huge → 1 ≤ b → b + 16 * (nsum n todo : Int) ≤ Huge →
      ∃ todo' c, todo'.length = todo.length ∧ Chain good todo' b c ∧ b ≤ c ∧ c ≤ b + 16 * (nsum n todo : Int) ∧ L m b (done.length : Int) (done ++ todo) = some (.done (c, done ++ todo'))
  | [], done, m + 1, b, h1, h2, h3, h4, h5 => ⟨[], b, rfl, rfl, Int.le_refl _, by simp [nsum], by rw [List.append_nil]; exact hd m b done⟩
  | [], done, 0, b, h1, h2, h3, h4, h5 => by simp at h1
  | x :: todo, done, 0, b, h1, h2, h3, h4, h5 => by simp at h1
  | x :: todo, done, m + 1, b, h1, h2, h3, h4, h5 => by
    simp only [nsum, List.length_cons] at h1 h3 h5
    have hat : at' (done ++ x :: todo) (done.length : Int) = some x := by rw [at_nat]; simp
    obtain ⟨x', c, hg, hc1, hc2, he⟩ := hs m b done.length (done ++ x :: todo) x (h2 x (by simp)) (by omega) hat h4 (by omega)
    obtain ⟨todo', d, e1, e2, e3, e4, e5⟩ := mark_loop hd hs todo (done ++ [x']) m c (by omega) (fun y hy => h2 y (by simp [hy])) (by simp; omega) (by omega) (by omega)
    refine ⟨x' :: todo', d, by simp [e1], ⟨c, hg, e2⟩, by omega, by simp only [nsum]; omega, ?_⟩
    rw [he (by simp)]
    have hset : (done ++ x :: todo).set done.length x' = (done ++ [x']) ++ todo := by simp
    rw [hset]
    rw [List.length_append, List.length_singleton] at e5
    rw [e5]; simp
theorem held_loop {α : Type} {good : Int → α → Int → Prop} {l : List α} {H : Nat → Int → Int → Option (Out Int Int)}
    (hd : ∀ m b, H (m + 1) b (l.length : Int) = some (.done b))
    (hs : ∀ m b c (j : Nat) x, j < Huge → at' l (j : Int) = some x → good b x c → j < l.length → H (m + 1) b (j : Int) = H m c ((j + 1 : Nat) : Int)) :
    ∀ (todo done : List α) (m : Nat) (b c : Int), todo.length < m → l = done ++ todo → l.length ≤ Huge → Chain good todo b c → H m b (done.length : Int) = some (.done c)
  | [], done, m + 1, b, c, h1, h2, h3, h4 => by
    cases h4
    have := hd m b
    rw [h2, List.append_nil] at this
    exact this
  | [], done, 0, b, c, h1, h2, h3, h4 => by simp at h1
  | x :: todo, done, 0, b, c, h1, h2, h3, h4 => by simp at h1
  | x :: todo, done, m + 1, b, c, h1, h2, h3, h4 => by
    obtain ⟨d, hg, hc⟩ := h4
    have hlen := congrArg List.length h2
    simp only [List.length_append, List.length_cons] at h1 hlen
    have hat : at' l (done.length : Int) = some x := by rw [h2, at_nat]; simp
    rw [hs m b d done.length x (by omega) hat hg (by omega)]
    have := held_loop hd hs todo (done ++ [x]) m d c (by omega) (by rw [h2]; simp) h3 hc
    rw [List.length_append, List.length_singleton] at this
    exact this
theorem mark1 {α : Type} {n : α → Nat} {ok : α → Prop} {L : Nat → Int → Int → List α → Option (Out (List α × Int) (Int × List α))}
    (hd : ∀ m b l, L (m + 1) b (l.length : Int) l = some (.done (b, l)))
    (hs : ∀ m b (j : Nat) (l : List α) x, ok x → j < Huge → at' l (j : Int) = some x → 1 ≤ b → b + 16 * (1 + (n x : Int)) ≤ Huge →
      ∃ x' c, b ≤ c ∧ c ≤ b + 16 * (1 + (n x : Int)) ∧ (j < l.length → L (m + 1) b (j : Int) l = L m c ((j + 1 : Nat) : Int) (l.set j x')))
    {k : Nat} (hk : maxLen < k) (l : List α) (hok : ∀ x ∈ l, ok x) (b : Int) (h1 : 1 ≤ b) (h2 : b + 16 * (nsum n l : Int) ≤ Huge) :
    ∃ l' c, L k b 0 l = some (.done (c, l')) ∧ b ≤ c ∧ c ≤ b + 16 * (nsum n l : Int) := by
  have hlen := nsum_len n l
  have hm : maxLen = 9223372036854775807 := maxLen_eq
  have hH : Huge = 1152921504606846976 := rfl
  obtain ⟨l', c, e1, e2, e3, e4, e5⟩ := mark_loop (good := fun _ _ _ => True) hd (fun m b j l x g1 g2 g3 g4 g5 => by
    obtain ⟨x', c, q1, q2, q3⟩ := hs m b j l x g1 g2 g3 g4 g5
    exact ⟨x', c, trivial, q1, q2, q3⟩) l [] k b (by omega) hok (by simp; omega) h1 h2
  exact ⟨l', c, e5, e3, e4⟩
theorem mark2 {α : Type} {n : α → Nat} {ok : α → Prop} (good : Int → α → Int → Prop) {L : Nat → Int → Int → List α → Option (Out (List α × Int) (Int × List α))} {H : List α → Nat → Int → Int → Option (Out Int Int)}
    (hd : ∀ m b l, L (m + 1) b (l.length : Int) l = some (.done (b, l)))
    (hs : ∀ m b (j : Nat) (l : List α) x, ok x → j < Huge → at' l (j : Int) = some x → 1 ≤ b → b + 16 * (1 + (n x : Int)) ≤ Huge →
      ∃ x' c, good b x' c ∧ b ≤ c ∧ c ≤ b + 16 * (1 + (n x : Int)) ∧ (j < l.length → L (m + 1) b (j : Int) l = L m c ((j + 1 : Nat) : Int) (l.set j x')))
    (hd' : ∀ l m b, H l (m + 1) b (l.length : Int) = some (.done b))
    (hs' : ∀ l m b c (j : Nat) x, j < Huge → at' l (j : Int) = some x → good b x c → j < l.length → H l (m + 1) b (j : Int) = H l m c ((j + 1 : Nat) : Int))
    {k : Nat} (hk : maxLen < k) (l : List α) (hok : ∀ x ∈ l, ok x) (b : Int) (h1 : 1 ≤ b) (h2 : b + 16 * (nsum n l : Int) ≤ Huge) :
    ∃ l' c, L k b 0 l = some (.done (c, l')) ∧ H l' k b 0 = some (.done c) ∧ b ≤ c ∧ c ≤ b + 16 * (nsum n l : Int) := by
  have hlen := nsum_len n l
  have hm : maxLen = 9223372036854775807 := maxLen_eq
  have hH : Huge = 1152921504606846976 := rfl
  obtain ⟨l', c, e1, e2, e3, e4, e5⟩ := mark_loop hd hs l [] k b (by omega) hok (by simp; omega) h1 h2
  have := held_loop (hd' l') (hs' l') l' [] k b c (by omega) rfl (by omega) e2
  exact ⟨l', c, e5, this, e3, e4⟩
end Go.Bv

namespace Go.Bv
open Go.RowKit
abbrev aI (x : Int) : AV := .int .i64 x
abbrev tP (n d : Nat) : Nat × (SV × OwnL) := (n, (.ptr d 0, []))
abbrev tV (n : Nat) (v : AV) : Nat × (SV × OwnL) := (n, (.v v, []))
abbrev tI (n : Nat) (x : Int) : Nat × (SV × OwnL) := (n, (.v (.int .i64 x), []))
abbrev tB (n : Nat) (x : Bool) : Nat × (SV × OwnL) := (n, (.v (.bool x), []))
abbrev tS (n : Nat) (x : ByteArray) : Nat × (SV × OwnL) := (n, (.v (.str x), []))
abbrev bC (n : Nat) (l : List AV) : Nat × BX := (n, (.cells l []))
section
variable {En : Env} {st : St} {K : AE → St → Prop} {id : Nat} {ops : Array Oper}
theorem Wc.r3 (hs : List Hint) (fs : List Fix) (st' : St) {obs : List Prop} (hob : AllP obs) (hK : K .normal st')
    (h : aReg En.P En.n ops hs fs st (st'.t.map Prod.fst) (st'.b.map Prod.fst) (st'.g.map Prod.fst) = some (st', obs) := by kernel_rfl) : Wc En (.region id ops false) st K :=
  Wc.region hs fs _ _ _ st' obs h hob hK
theorem Wc.r2 (hs : List Hint) (st' : St) {obs : List Prop} (hob : AllP obs) (hK : K .normal st')
    (h : aReg En.P En.n ops hs [] st (st'.t.map Prod.fst) (st'.b.map Prod.fst) (st'.g.map Prod.fst) = some (st', obs) := by kernel_rfl) : Wc En (.region id ops false) st K :=
  Wc.region hs [] _ _ _ st' obs h hob hK
theorem Wc.r1 (hs : List Hint) (st' : St) (hK : K .normal st')
    (h : aReg En.P En.n ops hs [] st (st'.t.map Prod.fst) (st'.b.map Prod.fst) (st'.g.map Prod.fst) = some (st', []) := by kernel_rfl) : Wc En (.region id ops false) st K :=
  Wc.region hs [] _ _ _ st' [] h .nil hK
theorem Wc.r0 (st' : St) (hK : K .normal st')
    (h : aReg En.P En.n ops [] [] st (st'.t.map Prod.fst) (st'.b.map Prod.fst) (st'.g.map Prod.fst) = some (st', []) := by kernel_rfl) : Wc En (.region id ops false) st K :=
  Wc.region [] [] _ _ _ st' [] h .nil hK
theorem Wc.fx {c : Code} (fs : List Fix) (st' : St) (hc : Wc En c st' K) (h : ((fixes st fs).bind fun s => s.keep (st'.t.map Prod.fst) (st'.b.map Prod.fst) (st'.g.map Prod.fst)) = some st' := by kernel_rfl) : Wc En c st K :=
  Wc.fix fs _ _ _ h hc
theorem Wc.cT {c : Operand} {x y : Code} {b : Bool} (hb : b = true) (h : Wc En x st K) (hc : evV st.look c = some (.bool b) := by kernel_rfl) : Wc En (.cond c x y) st K := Wc.condT hb hc h
theorem Wc.cF {c : Operand} {x y : Code} {b : Bool} (hb : b = false) (h : Wc En y st K) (hc : evV st.look c = some (.bool b) := by kernel_rfl) : Wc En (.cond c x y) st K := Wc.condF hb hc h
end
theorem dn {α β : Type} {x y : α} {z w : β} {p : Prop} (h1 : x = y := by kernel_rfl) (h2 : z = w := by kernel_rfl) : (AE.ret = AE.ret ∨ p) ∧ x = y ∧ z = w := ⟨.inl rfl, h1, h2⟩
theorem FnO.o2 {P : Program} {f : Nat} {fn : Func} {c : Code} {args : List AD} {r : AD} {outs : List (Nat × AD)} (hf : P.funcs[f]? = some fn) (hb : fn.body = some c)
    (h : ∀ w0 X0 Fin pv0 pb gt, Wc ⟨P, w0, X0, Fin, pv0, pb, fn.ntmps, gt⟩ c (entry args) (fun e st => (e = .ret ∨ e = .normal) ∧ (resOf P st fn.results.toList).map Prod.fst = some r ∧ outsOf st 0 args = some outs))
    (h1 : Nat.ble args.length fn.ntmps = true := by kernel_rfl) (h2 : Nat.ble fn.ntmps 1000000 = true := by kernel_rfl) : FnO P f args r outs :=
  FnO.of hf hb (Nat.le_of_ble_eq_true h1) (Nat.le_of_ble_eq_true h2) h
end Go.Bv

namespace Go.Bv
open Go.RowKit
def explL {α : Type} (f : Nat → Option (List α)) : List Nat → Option (List α)
  | [] => some []
  | i :: is => match f i, explL f is with
    | some l, some m => some (l ++ m)
    | _, _ => none
theorem explL_get {α : Type} {f : Nat → Option (List α)} : ∀ {is : List Nat} {L : List α}, explL f is = some L → ∀ i ∈ is, ∃ l, f i = some l ∧ ∀ x ∈ l, x ∈ L
  | [], L, h, i, hi => by cases hi
  | j :: is, L, h, i, hi => by
    rw [explL] at h
    split at h
    · rename_i l m h1 h2
      cases h
      rcases List.mem_cons.1 hi with rfl | hi
      · exact ⟨l, h1, fun x hx => List.mem_append_left _ hx⟩
      · obtain ⟨l', e, h3⟩ := explL_get h2 i hi
        exact ⟨l', e, fun x hx => List.mem_append_right _ (h3 x hx)⟩
    · cases h
theorem explL_all {α : Type} {f : Nat → Option (List α)} : ∀ {is : List Nat} {L : List α}, explL f is = some L → ∀ x ∈ L, ∃ i ∈ is, ∃ l, f i = some l ∧ x ∈ l
  | [], L, h, x, hx => by cases h; cases hx
  | j :: is, L, h, x, hx => by
    rw [explL] at h
    split at h
    · rename_i l m h1 h2
      cases h
      rcases List.mem_append.1 hx with hx | hx
      · exact ⟨j, List.mem_cons_self .., l, h1, hx⟩
      · obtain ⟨i, hi, l', e, h3⟩ := explL_all h2 x hx
        exact ⟨i, List.mem_cons_of_mem _ hi, l', e, h3⟩
    · cases h
def expl (P : Program) (n : Nat) (ops : Array Oper) (hs : List Hint) (fs : List Fix) (ts bs gs : List Nat) : Nat → Array Bool → St → List (List Prop) → Option (List (St × List (List Prop)))
  | 0, _, _, _ => none
  | fuel + 1, listed, st, O =>
    match Region.ready .any ops listed with
    | [] => match (fixes st fs).bind fun s => s.keep ts bs gs with
      | some s' => some [(s', O)]
      | none => none
    | i :: is => explL (fun j => match ops[j]? with
      | some o => match aStep P n ops.toList st o (hs.getD j {}) with
        | some (s, ob) => expl P n ops hs fs ts bs gs fuel (listed.setIfInBounds j true) s (O.set j ob)
        | none => none
      | none => none) (i :: is)
section
variable {En : Env} {Q : Exit → Act → World → Prop} {ops : Array Oper} {hs : List Hint} {fs : List Fix} {ts bs gs : List Nat}
theorem getD_setB {listed : Array Bool} {i j : Nat} {d : Bool} (h : i ≠ j) : (listed.setIfInBounds j true).getD i d = listed.getD i d := by
  simp only [Array.getD_eq_getD_getElem?, Array.getElem?_setIfInBounds]
  rw [if_neg (fun e => h e.symm)]
theorem expl_keeps : ∀ {fuel : Nat} {listed : Array Bool} {st : St} {O : List (List Prop)} {L : List (St × List (List Prop))}, expl En.P En.n ops hs fs ts bs gs fuel listed st O = some L →
    L ≠ [] ∧ ∀ x ∈ L, ∀ i, listed.getD i true = true → x.2[i]? = O[i]?
  | 0, listed, st, O, L, h => by cases h
  | fuel + 1, listed, st, O, L, h => by
    rw [expl] at h
    split at h
    · split at h
      · cases h
        exact ⟨by simp, fun x hx i hi => by rw [List.mem_singleton.1 hx]⟩
      · cases h
    · rename_i i0 is hr
      have hrd : ∀ j ∈ i0 :: is, listed.getD j true = false := fun j hj => by
        rw [← hr] at hj
        exact (ready_iff.1 hj).2.1
      refine ⟨?_, fun x hx i hi => ?_⟩
      · obtain ⟨l, e, hl⟩ := explL_get h i0 (List.mem_cons_self ..)
        split at e
        · split at e
          · obtain ⟨hne, _⟩ := expl_keeps e
            obtain ⟨y, hy⟩ := List.exists_mem_of_ne_nil l hne
            exact List.ne_nil_of_mem (hl y hy)
          · cases e
        · cases e
      · obtain ⟨j, hj, l, e, hxl⟩ := explL_all h x hx
        have hij : i ≠ j := fun e => by rw [e, hrd j hj] at hi; cases hi
        split at e
        · split at e
          · have := (expl_keeps e).2 x hxl i (by rw [getD_setB hij]; exact hi)
            rw [this, List.getElem?_set_ne (fun e => hij e.symm)]
          · cases e
        · cases e
theorem expl_sound {st' : St} {OO : List (List Prop)} (hob : ∀ l ∈ OO, ∀ p ∈ l, p) (hQ : ∀ a w, SR En st'.look a w → Q .normal a w) :
    ∀ (fuel : Nat) (listed : Array Bool) (st : St) (O : List (List Prop)) (L : List (St × List (List Prop))) (a : Act) (w : World), listed.size = ops.size → O.length = ops.size →
      expl En.P En.n ops hs fs ts bs gs (fuel + 1) listed st O = some L → (∀ x ∈ L, x = (st', OO)) → SR En st.look a w → (∀ l ∈ OO, True) → wpAny En.P .any ops Q fuel listed a w
  | fuel, listed, st, O, L, a, w, hsz, hlen, h, hL, hI, _ => by
    have hdone : Region.ready .any ops listed = [] → Q .normal a w := by
      intro hr
      rw [expl, hr] at h
      simp only at h
      split at h
      · rename_i s' hk
        cases h
        have := hL _ (List.mem_singleton.2 rfl)
        cases this
        rw [Option.bind_eq_some_iff] at hk
        obtain ⟨s1, h1, h2⟩ := hk
        exact hQ a w ((fixes_sound hI h1).keep h2)
      · cases h
    cases fuel with
    | zero =>
      refine ⟨?_, ?_⟩
      · rw [expl] at h
        split at h
        · assumption
        · rename_i i0 is hr
          obtain ⟨l, e, hl⟩ := explL_get h i0 (List.mem_cons_self ..)
          split at e
          · split at e
            · cases e
            · cases e
          · cases e
      · refine hdone ?_
        rw [expl] at h
        split at h
        · assumption
        · rename_i i0 is hr
          obtain ⟨l, e, hl⟩ := explL_get h i0 (List.mem_cons_self ..)
          split at e
          · split at e
            · cases e
            · cases e
          · cases e
    | succ fuel =>
      refine ⟨hdone, fun i hi => ?_⟩
      obtain ⟨hilt, hun, o, ho, _⟩ := ready_iff.1 hi
      have ho' : ops[i]? = some o := by simpa using ho
      rw [expl] at h
      split at h
      · rename_i hr
        rw [hr] at hi; cases hi
      · rename_i i0 is hr
        rw [hr] at hi
        obtain ⟨l, e, hl⟩ := explL_get h i hi
        rw [ho'] at e
        simp only at e
        split at e
        · rename_i s ob hst
          obtain ⟨hne, hkp⟩ := expl_keeps e
          obtain ⟨y, hy⟩ := List.exists_mem_of_ne_nil l hne
          have hy' := hL y (hl y hy)
          have hobs : ∀ p ∈ ob, p := by
            have h1 := hkp y hy i (by
              simp only [Array.getD_eq_getD_getElem?, Array.getElem?_setIfInBounds]
              rw [if_pos trivial, if_pos (by omega)]; rfl)
            rw [List.getElem?_set_self (by omega)] at h1
            rw [hy'] at h1
            exact hob ob (List.mem_of_getElem? h1)
          unfold wpOp
          rw [ho']
          simp only
          exact aStep_sound hI hst hobs (fun a' w' hI' => expl_sound hob hQ fuel _ s _ l a' w' (by simp [hsz]) (by simp [hlen]) e (fun x hx => hL x (hl x hx)) hI' (fun _ _ => trivial))
        · cases e
end
def AllPP : List (List Prop) → Prop
  | [] => True
  | l :: ls => AllP l ∧ AllPP ls
theorem AllPP.nil : AllPP [] := trivial
theorem AllPP.cons {l : List Prop} {ls : List (List Prop)} (h : AllP l) (hs : AllPP ls) : AllPP (l :: ls) := ⟨h, hs⟩
theorem AllPP.mem : ∀ {ls : List (List Prop)}, AllPP ls → ∀ l ∈ ls, ∀ p ∈ l, p
  | [], _, l, hl => by cases hl
  | m :: ms, h, l, hl => by
    rcases List.mem_cons.1 hl with rfl | hl
    · exact h.1.mem
    · exact AllPP.mem h.2 l hl
theorem Wc.every {En : Env} (hm : En.P.follows .mixedOrders = true) {st : St} {K : AE → St → Prop} {id : Nat} {ops : Array Oper} (hs : List Hint) (fs : List Fix) (ts bs gs : List Nat) (st' : St) (OO : List (List Prop)) (N : Nat)
    (h : expl En.P En.n ops hs fs ts bs gs (ops.size + 1) (Array.replicate ops.size false) st (List.replicate ops.size []) = some (List.replicate N (st', OO))) (hob : AllPP OO) (hK : K .normal st') : Wc En (.region id ops true) st K := by
  intro a w hI Q hQ
  refine wp_region_any hm ?_
  obtain ⟨G, hI⟩ := hI
  exact expl_sound hob.mem (fun a' w' hI' => hQ .normal st' a' w' hK hI') ops.size _ st _ _ a _ (by simp) (by simp) h (fun x hx => List.eq_of_mem_replicate hx) ⟨G, hI.drawn⟩ (fun _ _ => trivial)
def regIn (id : Nat) : Code → Option (Array Oper)
  | .region i ops _ => match Nat.beq i id with | true => some ops | false => none
  | .seq a b => match regIn id a with | some x => some x | none => regIn id b
  | .cond _ a b => match regIn id a with | some x => some x | none => regIn id b
  | .block _ a => regIn id a
  | .loop a => regIn id a
  | _ => none
def regOps (id : Nat) (f : Func) : Array Oper := match f.body with | some c => (match regIn id c with | some x => x | none => #[]) | none => #[]
def DrawOk (P : Program) (n : Nat) (ops : Array Oper) (hs : List Hint) (fs : List Fix) (st : St) (ts bs gs : List Nat) (st' : St) : Prop :=
  ∃ obs, aDraw Look.none P n ops hs fs st ts bs gs = some (st', obs) ∧ AllP obs ∧ ∀ X, dRun X P n ops.toList ops.toList hs st = dRun Look.none P n ops.toList ops.toList hs st
theorem Wc.drawAt {En : Env} (hm : En.P.follows .mixedOrders = true) {st : St} {K : AE → St → Prop} {c : Code} {id : Nat} {ops : Array Oper} {hs : List Hint} {fs : List Fix} {ts bs gs : List Nat} {st' : St}
    (H : DrawOk En.P En.n ops hs fs st ts bs gs st') (hc : c = .region id ops true) (hK : K .normal st') : Wc En c st K := by
  obtain ⟨obs, h, hob, hx⟩ := H
  rw [hc]
  exact Wc.draw hm hs fs ts bs gs st' obs h hx hob hK
end Go.Bv


namespace Go.Bv
open Go.RowKit
def updL : List Value → Nat → List Value → List Value
  | l, _, [] => l
  | l, o, v :: r => updL (l.set o v) (o + 1) r
theorem updL_len : ∀ (vs : List Value) (l : List Value) (o : Nat), (updL l o vs).length = l.length
  | [], l, o => rfl
  | v :: r, l, o => by rw [updL, updL_len r, List.length_set]
theorem updL_eq : ∀ (vs : List Value) (l : List Value) (o : Nat), o + vs.length ≤ l.length → updL l o vs = l.take o ++ vs ++ l.drop (o + vs.length)
  | [], l, o, h => by rw [updL]; simp
  | v :: r, l, o, h => by
    rw [List.length_cons] at h
    rw [updL, updL_eq r _ _ (by rw [List.length_set]; omega), List.take_set, List.drop_set, List.length_cons]
    rw [if_pos (by omega)]
    have e : (l.take (o + 1)).set o v = l.take o ++ [v] := by
      rw [List.take_succ_eq_append_getElem (by omega), List.set_append]
      rw [if_neg (by rw [List.length_take]; omega)]
      have : o - (l.take o).length = 0 := by rw [List.length_take]; omega
      rw [this]; rfl
    rw [e, show o + 1 + r.length = o + (r.length + 1) by omega]
    simp
theorem setCell_obj {w : World} {b : Nat} {cur : Array Value} {e : TypeId} {z : Nat × Nat} (h : w.heap[b]? = some (.cells cur e z)) (o : Nat) (v : Value) : (w.setCell ⟨b, o, none⟩ v).heap[b]? = some (.cells (cur.setIfInBounds o v) e z) := by
  unfold World.setCell
  simp [Array.getElem?_modify, h]
theorem setCell_ne {w : World} {b c : Nat} (hne : c ≠ b) (o : Nat) (v : Value) : (w.setCell ⟨b, o, none⟩ v).heap[c]? = w.heap[c]? := by
  unfold World.setCell
  simp [Array.getElem?_modify]
  intro h; exact absurd h.symm hne
theorem setCells_obj {b : Nat} {e : TypeId} {z : Nat × Nat} : ∀ (vs : List Value) (o : Nat) {w : World} {cur : Array Value}, w.heap[b]? = some (.cells cur e z) → (w.setCells b o vs).heap[b]? = some (.cells (updL cur.toList o vs).toArray e z)
  | [], o, w, cur, h => by rw [World.setCells, updL]; simpa using h
  | v :: r, o, w, cur, h => by
    rw [World.setCells, updL]
    have := setCells_obj r (o + 1) (setCell_obj h o v)
    simpa using this
theorem setCells_ne {b c : Nat} (hne : c ≠ b) : ∀ (vs : List Value) (o : Nat) (w : World), (w.setCells b o vs).heap[c]? = w.heap[c]?
  | [], o, w => rfl
  | v :: r, o, w => by rw [World.setCells, setCells_ne hne r, setCell_ne hne]
theorem setCells_size (b : Nat) : ∀ (vs : List Value) (o : Nat) (w : World), (w.setCells b o vs).heap.size = w.heap.size
  | [], o, w => rfl
  | v :: r, o, w => by rw [World.setCells, setCells_size b r]; simp [World.setCell]
theorem setCells_rest (b : Nat) : ∀ (vs : List Value) (o : Nat) (w : World), (w.setCells b o vs).os = w.os ∧ (w.setCells b o vs).tape = w.tape ∧ (w.setCells b o vs).output = w.output
  | [], o, w => ⟨rfl, rfl, rfl⟩
  | v :: r, o, w => by rw [World.setCells]; exact setCells_rest b r (o + 1) _
theorem shift_list {cs vs rest : List Value} {n i : Nat} (hl : cs.length = n * 2) (hv : vs.length = 2) (hi : i ≤ n) (hr : 2 ≤ rest.length) :
    ∃ rest', updL (updL (cs ++ rest) ((i + 1) * 2) (cs.drop (i * 2))) (i * 2) vs = (cs.take (i * 2) ++ vs ++ cs.drop (i * 2)) ++ rest' := by
  have h1 : (cs.drop (i * 2)).length = n * 2 - i * 2 := by rw [List.length_drop, hl]
  refine ⟨rest.drop 2, ?_⟩
  have a1 : (cs ++ rest).take ((i + 1) * 2) = cs.take (i * 2) ++ ((cs ++ rest).take ((i + 1) * 2)).drop (i * 2) := by
    conv => lhs; rw [← List.take_append_drop (i * 2) ((cs ++ rest).take ((i + 1) * 2))]
    rw [List.take_take, Nat.min_eq_left (by omega), List.take_append_of_le_length (by omega)]
  have a2 : (((cs ++ rest).take ((i + 1) * 2)).drop (i * 2)).length = 2 := by
    rw [List.length_drop, List.length_take, List.length_append]; omega
  have a3 : (cs.take (i * 2)).length = i * 2 := by rw [List.length_take]; omega
  have a4 : (cs ++ rest).drop ((i + 1) * 2 + (cs.drop (i * 2)).length) = rest.drop 2 := by
    rw [h1, List.drop_append, List.drop_of_length_le (by omega), List.nil_append]
    congr 1; omega
  have s1 := updL_eq (cs.drop (i * 2)) (cs ++ rest) ((i + 1) * 2) (by rw [List.length_append, h1, hl]; omega)
  rw [a4, a1] at s1
  have s2 := updL_eq vs (updL (cs ++ rest) ((i + 1) * 2) (cs.drop (i * 2))) (i * 2) (by rw [updL_len, List.length_append, hl, hv]; omega)
  rw [s2, s1, hv]
  generalize ((cs ++ rest).take ((i + 1) * 2)).drop (i * 2) = m at a2
  generalize cs.take (i * 2) = A at a3
  have b1 : A ++ m ++ cs.drop (i * 2) ++ rest.drop 2 = A ++ (m ++ (cs.drop (i * 2) ++ rest.drop 2)) := by simp
  have b2 : A ++ m ++ cs.drop (i * 2) ++ rest.drop 2 = (A ++ m) ++ (cs.drop (i * 2) ++ rest.drop 2) := by simp
  have c1 : (A ++ m ++ cs.drop (i * 2) ++ rest.drop 2).take (i * 2) = A := by rw [b1]; exact List.take_left' a3
  have c2 : (A ++ m ++ cs.drop (i * 2) ++ rest.drop 2).drop (i * 2 + 2) = cs.drop (i * 2) ++ rest.drop 2 := by rw [b2]; exact List.drop_left' (by rw [List.length_append]; omega)
  rw [c1, c2]
  simp
def strs (c : List AV) : Bool := c.all fun v => match v with | .str _ => true | _ => false
theorem relL_strs {X X' : Gh} {w w' : World} : ∀ {cs : List AV} {us : List Value}, strs cs = true → RelL X w cs us → RelL X' w' cs us ∧ ∀ v ∈ us, v.oneCell' = true
  | [], us, h, r => by
    have : us = [] := r
    subst this
    exact ⟨r, by simp⟩
  | c :: cs, us, h, ⟨u, r, e, h1, h2⟩ => by
    unfold strs at h
    rw [List.all_cons, Bool.and_eq_true] at h
    have ih := relL_strs (X' := X') (w' := w') (cs := cs) h.2 h2
    subst e
    cases c with
    | str s =>
      have : u = .string s := h1
      subst this
      refine ⟨⟨_, r, rfl, rfl, ih.1⟩, fun v hv => ?_⟩
      rcases List.mem_cons.1 hv with rfl | hv
      · rfl
      · exact ih.2 v hv
    | _ => cases h.1
theorem strs_flat {rows : List (List AV)} (h : ∀ c ∈ rows, strs c = true) : strs rows.flatten = true := by
  unfold strs at *
  rw [List.all_eq_true]
  intro v hv
  obtain ⟨c, hc, hv⟩ := List.mem_flatten.1 hv
  exact List.all_eq_true.1 (h c hc) v hv
def insF {α : Type} (l : List α) (i : Nat) (x : α) : List α := l.take i ++ (x :: l.drop i)
theorem flat_take {rows : List (List AV)} {sz : Nat} (h : ∀ c ∈ rows, c.length = sz) : ∀ (i : Nat), i ≤ rows.length → (rows.take i).flatten = rows.flatten.take (i * sz) ∧ (rows.drop i).flatten = rows.flatten.drop (i * sz) := by
  induction rows with
  | nil => intro i hi; simp
  | cons c rows ih =>
    intro i hi
    cases i with
    | zero => simp
    | succ i =>
      have hc := h c (List.mem_cons_self ..)
      obtain ⟨e1, e2⟩ := ih (fun d hd => h d (List.mem_cons_of_mem _ hd)) i (by simpa using hi)
      rw [List.take_succ_cons, List.drop_succ_cons, List.flatten_cons, List.flatten_cons, e1, e2, Nat.add_mul, Nat.one_mul, show i * sz + sz = c.length + i * sz by omega, List.take_length_add_append, List.drop_length_add_append]
      exact ⟨rfl, rfl⟩
structure Roads (P : Program) (f : Nat) (e : TypeId) (zc : Array Value) : Prop where
  shift : ∀ (b n c i vb vc : Nat) (cs vs : List Value) (w : World) (hi : i < n) (hroom : n + 1 ≤ c) (hc63 : c ≤ 9223372036854775807) (hvb : vb ≠ b)
    (hcl : cs.length = n * 2) (hvl : vs.length = 2)
    (hcs : ∀ j v, cs[j]? = some v → w.cell? ⟨b, j, none⟩ = some v) (hsp : ∀ j, j < (n + 1) * 2 → (w.cell? ⟨b, j, none⟩).isSome = true) (hfz : ∀ j, j < (n + 1) * 2 → w.frozen? ⟨b, j, none⟩ = false)
    (hvs : ∀ j v, vs[j]? = some v → w.cell? ⟨vb, j, none⟩ = some v) (h1c : ∀ v ∈ cs, v.oneCell' = true) (h1v : ∀ v ∈ vs, v.oneCell' = true)
    (tA tB : TypeId) (kA kB : Nat) (hsa : w.shape? vb = some (tA, kA)) (hsb : w.shape? b = some (tB, kB)) (hkB : kB ≠ 0) (hfa : w.frozen? ⟨vb, 0, none⟩ = false) (hfe : w.frozen? ⟨vb, kA, none⟩ = false),
    Calls P f #[.slice (some ⟨b, 0, none⟩) n c, .int .i64 i, .slice (some ⟨vb, 0, none⟩) 1 vc] w fun e w' =>
      e = .returned (.slice (some ⟨b, 0, none⟩) (n + 1) c) ∧ w' = (w.drew.setCells b ((i + 1) * 2) (cs.drop (i * 2))).setCells b (i * 2) vs
  grow : ∀ (b n c i vb vc : Nat) (cs vs : List Value) (w : World) (hi : i < n) (hnc : n ≤ c) (hroom : c < n + 1) (hbig : (n + 1) * 32 ≤ 140737488355328)
    (hcl : cs.length = n * 2) (hvl : vs.length = 2)
    (hcs : ∀ j v, cs[j]? = some v → w.cell? ⟨b, j, none⟩ = some v)
    (hvs : ∀ j v, vs[j]? = some v → w.cell? ⟨vb, j, none⟩ = some v) (h1c : ∀ v ∈ cs, v.oneCell' = true) (h1v : ∀ v ∈ vs, v.oneCell' = true),
    Calls P f #[.slice (some ⟨b, 0, none⟩) n c, .int .i64 i, .slice (some ⟨vb, 0, none⟩) 1 vc] w fun r w' =>
      r = .returned (.slice (some ⟨w.heap.size, 0, none⟩) (n + 1) (grownCap w (n + 1) c e)) ∧
      w' = (((w.alloc (.cells ((cs.take (i * 2)).toArray ++ Builtin.zeroCells zc (n + 1 - i) ++ Builtin.zeroCells zc (grownCap w (n + 1) c e - (n + 1))) e)).drew.setCells w.heap.size (i * 2) vs).drew).setCells w.heap.size ((i + 1) * 2) (cs.drop (i * 2))
  eroom : ∀ (b n c vb vc : Nat) (vs : List Value) (w : World) (hroom : n + 1 ≤ c) (hc63 : c ≤ 9223372036854775807)
    (hvl : vs.length = 2) (hsp : ∀ j, j < 2 → (w.cell? ⟨b, n * 2 + j, none⟩).isSome = true) (hfz : ∀ j, j < 2 → w.frozen? ⟨b, n * 2 + j, none⟩ = false)
    (hvs : ∀ j v, vs[j]? = some v → w.cell? ⟨vb, j, none⟩ = some v) (h1v : ∀ v ∈ vs, v.oneCell' = true),
    Calls P f #[.slice (some ⟨b, 0, none⟩) n c, .int .i64 n, .slice (some ⟨vb, 0, none⟩) 1 vc] w fun e w' =>
      e = .returned (.slice (some ⟨b, 0, none⟩) (n + 1) c) ∧ w' = w.setCells b (n * 2) vs
  egrow : ∀ (base : Option Addr) (n c vb vc : Nat) (cs vs : List Value) (w : World) (hnc : n ≤ c) (hroom : c < n + 1) (hbig : (n + 1) * 32 ≤ 140737488355328)
    (hcl : cs.length = n * 2) (hvl : vs.length = 2) (hnil : base = none → n = 0)
    (hcs : ∀ a, base = some a → ∀ j v, cs[j]? = some v → w.cell? (a.add j) = some v)
    (hvs : ∀ j v, vs[j]? = some v → w.cell? ⟨vb, j, none⟩ = some v) (h1v : ∀ v ∈ vs, v.oneCell' = true),
    Calls P f #[.slice base n c, .int .i64 n, .slice (some ⟨vb, 0, none⟩) 1 vc] w fun r w' =>
      r = .returned (.slice (some ⟨w.heap.size, 0, none⟩) (n + 1) (grownCap w (n + 1) c e)) ∧
      w' = w.drew.alloc (.cells ((cs ++ vs).toArray ++ Builtin.zeroCells zc (grownCap w (n + 1) c e - (n + 1))) e)
theorem grow_list {cs vs Z : List Value} {n i : Nat} (hl : cs.length = n * 2) (hv : vs.length = 2) (hi : i ≤ n) (hr : (n + 1 - i) * 2 ≤ Z.length) :
    ∃ rest', updL (updL (cs.take (i * 2) ++ Z) (i * 2) vs) ((i + 1) * 2) (cs.drop (i * 2)) = (cs.take (i * 2) ++ vs ++ cs.drop (i * 2)) ++ rest' := by
  have h1 : (cs.drop (i * 2)).length = n * 2 - i * 2 := by rw [List.length_drop, hl]
  have a3 : (cs.take (i * 2)).length = i * 2 := by rw [List.length_take]; omega
  generalize cs.take (i * 2) = A at a3
  refine ⟨(Z.drop 2).drop (n * 2 - i * 2), ?_⟩
  have s1 := updL_eq vs (A ++ Z) (i * 2) (by rw [List.length_append]; omega)
  rw [List.take_left' a3, hv, ← a3, List.drop_length_add_append] at s1
  rw [← a3, s1]
  have e : A ++ vs ++ Z.drop 2 = (A ++ vs) ++ Z.drop 2 := rfl
  have a4 : (A ++ vs).length = (i + 1) * 2 := by rw [List.length_append]; omega
  have s2 := updL_eq (cs.drop (i * 2)) ((A ++ vs) ++ Z.drop 2) ((i + 1) * 2) (by simp only [List.length_append, List.length_drop]; omega)
  rw [List.take_left' a4, h1, ← a4, List.drop_length_add_append] at s2
  rw [← a4, a3, s2]
theorem fr_setCells {Z : Nat → Prop} {b : Nat} (hb : Z b) (vs : List Value) (o : Nat) (w : World) : Fr Z w (w.setCells b o vs) :=
  ⟨(setCells_rest b vs o w).1, (setCells_rest b vs o w).2.1, (setCells_rest b vs o w).2.2, by rw [setCells_size]; exact Nat.le_refl _, fun c _ hc => setCells_ne (fun h => hc (by rw [h]; exact hb)) vs o w⟩
theorem fr_drew {Z : Nat → Prop} (w : World) : Fr Z w w.drew := ⟨rfl, rfl, rfl, Nat.le_refl _, fun _ _ _ => rfl⟩
theorem fr_alloc {Z : Nat → Prop} (w : World) (o : Obj) : Fr Z w (w.alloc o) :=
  ⟨rfl, rfl, rfl, by show w.heap.size ≤ (w.heap.push o).size; rw [Array.size_push]; omega, fun b hb _ => by show (w.heap.push o)[b]? = _; rw [Array.getElem?_push_lt hb, Array.getElem?_eq_getElem hb]⟩
theorem fr_trans {Z : Nat → Prop} {w w1 w2 : World} (h : Fr Z w w1) (g : Fr (fun b => Z b ∨ w.heap.size ≤ b) w1 w2) : Fr Z w w2 :=
  ⟨g.os.trans h.os, g.tape.trans h.tape, g.output.trans h.output, Nat.le_trans h.size g.size, fun b hb hz => (g.block b (Nat.lt_of_lt_of_le hb h.size) (fun q => q.elim hz (fun q => by omega))).trans (h.block b hb hz)⟩
theorem take_pre {α : Type} {l a b : List α} {n : Nat} (h : l = a ++ b) (hn : a.length = n) : l.take n = a := by rw [h]; exact List.take_left' hn
theorem strs_cons {c : AV} {cs : List AV} (h : strs (c :: cs) = true) : (∃ s, c = .str s) ∧ strs cs = true := by
  unfold strs at h
  rw [List.all_cons, Bool.and_eq_true] at h
  refine ⟨?_, h.2⟩
  cases c with
  | str s => exact ⟨s, rfl⟩
  | _ => cases h.1
theorem dvl_strs {P : Program} {X : Gh} {w : World} : ∀ {cs : List AV} {us : List Value} {F : List Nat}, strs cs = true → DVL P w cs us F → F = [] ∧ RelL X w cs us
  | [], us, F, _, h => ⟨h.2, h.1⟩
  | c :: cs, us, F, hs, ⟨u, r, F1, F2, e1, e2, h1, h2⟩ => by
    obtain ⟨⟨s, rfl⟩, hs2⟩ := strs_cons hs
    obtain ⟨h1, rfl⟩ : u = .string s ∧ F1 = [] := h1
    obtain ⟨rfl, h3⟩ := dvl_strs (X := X) hs2 h2
    exact ⟨e2, u, r, e1, h1, h3⟩
theorem strs_dvl {P : Program} {X : Gh} {w : World} : ∀ {cs : List AV} {us : List Value}, strs cs = true → RelL X w cs us → DVL P w cs us []
  | [], us, _, h => ⟨h, rfl⟩
  | c :: cs, us, hs, ⟨u, r, e1, h1, h2⟩ => by
    obtain ⟨⟨s, rfl⟩, hs2⟩ := strs_cons hs
    exact ⟨u, r, [], [], e1, rfl, ⟨h1, rfl⟩, strs_dvl hs2 h2⟩
theorem insert_O {P : Program} {f : Nat} {e : TypeId} {zc : Array Value} (R : Roads P f e zc) (hz : sizeP P e = some 2) (hzc : ∀ k, (Builtin.zeroCells zc k).size = k * 2) (he : e ≠ anyT)
    {dp : Bool} {rows : List (List AV)} {x : List AV} {i : Nat} (hi : i ≤ rows.length) (hn : rows.length + 1 ≤ 1073741824) (hs : ∀ c ∈ rows, strs c = true) (hx : strs x = true) :
    FnO P f [.v .slx [(0, .ex e dp rows)], .v (.int .i64 i) [], .v .slx [(0, .ex e dp [x])]] (.v .slx [(0, .ex e dp (insF rows i x))]) [] := by
  intro X w us lab hin hX hgt
  obtain ⟨u0, r0, rfl, ⟨h0a, h0b⟩, u1, r1, rfl, ⟨h1a, h1b⟩, u2, r2, rfl, ⟨h2a, h2b⟩, h3⟩ := hin
  have h3 : r2 = [] := h3
  subst h3
  obtain ⟨A0, l0, c0, rfl⟩ := h0a
  obtain ⟨A2, l2, c2, rfl⟩ := h2a
  have h1 : u1 = .int .i64 i := h1a
  subst h1
  obtain ⟨_, q0, F0, e0, R0, L0⟩ := h0b 0 _ (List.mem_singleton.2 rfl)
  obtain ⟨_, q2, F2, e2, R2, L2⟩ := h2b 0 _ (List.mem_singleton.2 rfl)
  have e0 : q0 = .slice A0 l0 c0 := (Option.some.inj e0).symm
  have e2 : q2 = .slice A2 l2 c2 := (Option.some.inj e2).symm
  subst e0; subst e2
  obtain ⟨t0, z0, us0, G0, d0, k0, o0, n0, m0q, p0, _, x0⟩ := R0
  obtain ⟨g0, m0⟩ : G0 = [] ∧ RelL X w rows.flatten us0 := by
    cases dp with
    | true => exact dvl_strs (strs_flat hs) m0q
    | false => exact m0q
  obtain ⟨t2, z2, us2, G2, d2, k2, o2, n2, m2q, p2, _, x2⟩ := R2
  obtain ⟨g2, m2⟩ : G2 = [] ∧ RelL X w [x].flatten us2 := by
    cases dp with
    | true => exact dvl_strs (strs_flat (rows := [x]) (fun c hc => by rw [List.mem_singleton.1 hc]; exact hx)) m2q
    | false => exact m2q
  obtain rfl : t0 = e := d0.resolve_right he
  obtain rfl : t2 = t0 := d2.resolve_right he
  obtain rfl : z0 = 2 := Option.some.inj (k0.symm.trans hz)
  obtain rfl : z2 = 2 := Option.some.inj (k2.symm.trans hz)
  subst g0; subst g2; subst p0; subst p2
  rw [List.append_nil] at x0 L0 x2 L2
  have hxl : x.length = 2 := n2 x (List.mem_singleton.2 rfl)
  have ul0 : us0.length = rows.length * 2 := o0.1
  have ul2 : us2.length = 2 := o2.1
  have hc0 := (relL_strs (X' := X) (w' := w) (strs_flat hs) m0).2
  have m2' : RelL X w x us2 := by rw [List.flatten_cons, List.flatten_nil, List.append_nil] at m2; exact m2
  have hc2 := (relL_strs (X' := X) (w' := w) hx m2').2
  have cl2 : ∀ {b l c}, A2 = some b → (Value.slice A2 l2 c2) = .slice (some b) l c → True := fun _ _ => trivial
  rcases o2.2 with ⟨_, hbad⟩ | ⟨vb, c2', vcur, hv, _, hvo, hvn, hvm, hvs, hvt⟩
  · cases hbad
  cases hv
  have hvb : lab vb = some (2, 1) := L2 vb (mem_blks.2 rfl)
  have hvc : ∀ j v, us2[j]? = some v → w.cell? ⟨vb, j, none⟩ = some v := fun j v hj => by
    have := o2.cells (g := vb) rfl j v hj
    rwa [add_lit, Nat.zero_add] at this
  have hlen : (insF rows i x).length = rows.length + 1 := by unfold insF; rw [List.length_append, List.length_cons, List.length_take, List.length_drop]; omega
  have hflat : (insF rows i x).flatten = rows.flatten.take (i * 2) ++ (x ++ rows.flatten.drop (i * 2)) := by
    unfold insF
    rw [List.flatten_append, List.flatten_cons, (flat_take n0 i hi).1, (flat_take n0 i hi).2]
  have hsl : ∀ c ∈ insF rows i x, c.length = 2 := fun c hc => by
    rcases List.mem_append.1 hc with hc | hc
    · exact n0 c (List.mem_of_mem_take hc)
    · rcases List.mem_cons.1 hc with rfl | hc
      · exact hxl
      · exact n0 c (List.mem_of_mem_drop hc)
  have hrel : ∀ (X' : Gh) (w' : World), RelL X' w' (insF rows i x).flatten (us0.take (i * 2) ++ us2 ++ us0.drop (i * 2)) := fun X' w' => by
    have a := (relL_strs (X' := X') (w' := w') (strs_flat hs) m0).1
    have b := (relL_strs (X' := X') (w' := w') hx m2').1
    rw [hflat, List.append_assoc]
    exact (RelL.take (i * 2) a).append (b.append (RelL.drop (i * 2) a))
  have hil : (us0.take (i * 2) ++ us2 ++ us0.drop (i * 2)).length = (rows.length + 1) * 2 := by
    simp only [List.length_append, List.length_take, List.length_drop, ul0, ul2]; omega
  have hstr : strs (insF rows i x).flatten = true := strs_flat (fun c hc => by
    rcases List.mem_append.1 hc with hc | hc
    · exact hs c (List.mem_of_mem_take hc)
    · rcases List.mem_cons.1 hc with rfl | hc
      · exact hx
      · exact hs c (List.mem_of_mem_drop hc))
  -- what is handed back
  have close : ∀ (w' : World) (X' : Gh) (lab' : Lab) (g' cap' : Nat) (cur' rest : List Value), w'.heap[g']? = some (.cells cur'.toArray t2 (0, 0)) → rows.length + 1 ≤ cap' → cap' ≤ maxLen → cur'.length = cap' * 2 →
      cur' = (us0.take (i * 2) ++ us2 ++ us0.drop (i * 2)) ++ rest → X' g' = some 0 → lab' g' = some (0, 1) → AIn P X' w' lab' 0 (.v .slx [(0, .ex t2 dp (insF rows i x))]) (.slice (some ⟨g', 0, none⟩) (rows.length + 1) cap') := by
    intro w' X' lab' g' cap' cur' rest a1 a2 a3 a4 a5 a6 a7
    refine ⟨⟨_, _, _, rfl⟩, fun j oe hj => ?_⟩
    obtain ⟨rfl, rfl⟩ := Prod.mk.inj (List.mem_singleton.1 hj)
    refine ⟨rfl, _, [g'], rfl, ⟨t2, 2, us0.take (i * 2) ++ us2 ++ us0.drop (i * 2), [], .inl rfl, hz, ⟨by rw [hil, hlen], .inr ⟨g', cap', cur'.toArray, by rw [hlen], Nat.zero_le _, a1, by rw [hlen]; exact a2, a3, by simpa using a4, ?_⟩⟩, hsl, (by cases dp with
      | true => exact strs_dvl hstr (hrel X' w')
      | false => exact ⟨rfl, hrel X' w'⟩), rfl, by simp, fun b hb => ?_⟩, fun b hb => ?_⟩
    · rw [hlen]
      exact take_pre (b := rest) (by simpa using a5) hil
    · rw [List.mem_singleton.1 hb]; exact a6
    · rw [List.mem_singleton.1 hb]; exact a7
  -- in place
  have place : ∀ (w' : World) (g c : Nat) (cur' rest : List Value), lab g = some (0, 1) → X g = some 0 → Fr (fun b => ∃ q, lab b = some q) w w' → w'.heap.size = w.heap.size → w'.heap[g]? = some (.cells cur'.toArray t2 (0, 0)) → rows.length + 1 ≤ c → c ≤ maxLen → cur'.length = c * 2 →
      cur' = (us0.take (i * 2) ++ us2 ++ us0.drop (i * 2)) ++ rest → ∃ (u : Value) (X' : Gh) (lab' : Lab), Ending.returned (.slice (some ⟨g, 0, none⟩) (rows.length + 1) c) = Ending.returned u ∧ Fr (fun b => ∃ q, lab b = some q) w w' ∧ (∀ b, b < w.heap.size → lab b = none → X' b = X b ∧ lab' b = none) ∧
        (∀ b, w'.heap.size ≤ b → X' b = none ∧ lab' b = none) ∧ AIn P X' w' lab' 0 (.v .slx [(0, .ex t2 dp (insF rows i x))]) u ∧ ∀ i' q, (i', q) ∈ ([] : List (Nat × AD)) → ∃ v, [Value.slice A0 l0 c0, .int .i64 i, .slice (some ⟨vb, 0, none⟩) 1 c2][i']? = some v ∧ AIn P X' w' lab' (i' + 1) q v := by
    intro w' g c cur' rest a1 a2 a3 a4 a5 a6 a7 a8 a9
    exact ⟨_, X, lab, rfl, a3, fun b _ hb => ⟨rfl, hb⟩, fun b hb => hX b (by omega), close w' X lab g c cur' rest a5 a6 a7 a8 a9 a2 a1, fun _ _ h => by cases h⟩
  have fresh : ∀ (w' : World) (c : Nat) (cur' rest : List Value), Fr (fun b => ∃ q, lab b = some q) w w' → w'.heap.size = w.heap.size + 1 → w'.heap[w.heap.size]? = some (.cells cur'.toArray t2 (0, 0)) → rows.length + 1 ≤ c → c ≤ maxLen → cur'.length = c * 2 →
      cur' = (us0.take (i * 2) ++ us2 ++ us0.drop (i * 2)) ++ rest → ∃ (u : Value) (X' : Gh) (lab' : Lab), Ending.returned (.slice (some ⟨w.heap.size, 0, none⟩) (rows.length + 1) c) = Ending.returned u ∧ Fr (fun b => ∃ q, lab b = some q) w w' ∧ (∀ b, b < w.heap.size → lab b = none → X' b = X b ∧ lab' b = none) ∧
        (∀ b, w'.heap.size ≤ b → X' b = none ∧ lab' b = none) ∧ AIn P X' w' lab' 0 (.v .slx [(0, .ex t2 dp (insF rows i x))]) u ∧ ∀ i' q, (i', q) ∈ ([] : List (Nat × AD)) → ∃ v, [Value.slice A0 l0 c0, .int .i64 i, .slice (some ⟨vb, 0, none⟩) 1 c2][i']? = some v ∧ AIn P X' w' lab' (i' + 1) q v := by
    intro w' c cur' rest a3 a4 a5 a6 a7 a8 a9
    refine ⟨_, fun b => if b = w.heap.size then some 0 else X b, fun b => if b = w.heap.size then some (0, 1) else lab b, rfl, a3, fun b hb hl => ?_, fun b hb => ?_, close w' _ _ _ c cur' rest a5 a6 a7 a8 a9 (if_pos rfl) (if_pos rfl), fun _ _ h => by cases h⟩
    · have hbn : ¬ b = w.heap.size := by omega
      exact ⟨if_neg hbn, (if_neg hbn).trans hl⟩
    · have hbn : ¬ b = w.heap.size := by omega
      have := hX b (by omega)
      exact ⟨(if_neg hbn).trans this.1, (if_neg hbn).trans this.2⟩
  rcases o0.2 with ⟨hnil, hz0⟩ | ⟨g, cap, cur, hv, _, hgo, hgn, hgm, hgs, hgt'⟩
  · -- the nil slice
    cases hnil
    have hi0 : i = 0 := by omega
    subst hi0
    have hu : us0 = [] := List.length_eq_zero_iff.1 (by rw [ul0, hz0])
    have h := R.egrow none 0 0 vb c2 [] us2 w (Nat.le_refl _) (by omega) (by decide) (by simp) ul2 (fun _ => rfl) (fun a h => by cases h) hvc hc2
    refine Calls.mono h ?_
    rintro ex w' ⟨rfl, rfl⟩
    have gm := grownCap_le_maxLen w 1 0 t2 (by unfold maxLen; omega)
    have gg := grownCap_ge w 1 0 t2
    have hr0 : rows.length = 0 := hz0
    have gm : grownCap w (rows.length + 1) 0 t2 ≤ maxLen := by rw [hr0]; exact gm
    have gg : rows.length + 1 ≤ grownCap w (rows.length + 1) 0 t2 := by rw [hr0]; exact gg
    rw [show (0 : Nat) + 1 = rows.length + 1 by omega]
    refine fresh _ (grownCap w (rows.length + 1) 0 t2) (us2 ++ (Builtin.zeroCells zc (grownCap w (rows.length + 1) 0 t2 - (rows.length + 1))).toList) (Builtin.zeroCells zc (grownCap w (rows.length + 1) 0 t2 - (rows.length + 1))).toList (fr_trans (fr_drew w) (fr_alloc _ _)) (by show (w.heap.push _).size = _; rw [Array.size_push]) ?_ gg gm ?_ ?_
    · show (w.heap.push _)[w.heap.size]? = _
      rw [Array.getElem?_push_size]
      simp
    · simp only [List.length_append, Array.length_toList, hzc, ul2]; omega
    · rw [hu]; simp
  · cases hv
    have hgl : lab g = some (0, 1) := L0 g (mem_blks.2 rfl)
    have hgx : X g = some 0 := x0 g (mem_blks.2 rfl)
    have hne : vb ≠ g := fun h => by rw [h, hgl] at hvb; cases hvb
    have hgc : ∀ j v, us0[j]? = some v → w.cell? ⟨g, j, none⟩ = some v := fun j v hj => by
      have := o0.cells (g := g) rfl j v hj
      rwa [add_lit, Nat.zero_add] at this
    have hgl2 : ∃ rest, cur.toList = us0 ++ rest := ⟨cur.toList.drop (rows.length * 2), by rw [← hgt', List.take_append_drop]⟩
    obtain ⟨rest, hrest⟩ := hgl2
    have hcl : cur.toList.length = c0 * 2 := by rw [Array.length_toList]; exact hgs
    have hrl : us0.length + rest.length = c0 * 2 := by rw [← List.length_append, ← hrest]; exact hcl
    have hcell : ∀ j, j < c0 * 2 → (w.cell? ⟨g, j, none⟩).isSome = true := fun j hj => by
      rw [cell_row hgo, Array.getElem?_eq_getElem (by omega)]; rfl
    have hfrz : ∀ j, w.frozen? ⟨g, j, none⟩ = false := fun j => by simp [World.frozen?, hgo]
    have hfv : ∀ j, w.frozen? ⟨vb, j, none⟩ = false := fun j => by simp [World.frozen?, hvo]
    by_cases hroom : rows.length + 1 ≤ c0
    · by_cases hin : i < rows.length
      · have h := R.shift g rows.length c0 i vb c2 us0 us2 w hin hroom (by unfold maxLen at hgm; omega) hne ul0 ul2 hgc (fun j hj => hcell j (by omega)) (fun j _ => hfrz j) hvc hc0 hc2 t2 t2 vcur.size cur.size
          (by simp [World.shape?, hvo]) (by simp [World.shape?, hgo]) (by omega) (hfv 0) (hfv _)
        refine Calls.mono h ?_
        rintro ex w' ⟨rfl, rfl⟩
        obtain ⟨rest', hr'⟩ := shift_list (cs := us0) (vs := us2) (rest := rest) (n := rows.length) (i := i) ul0 ul2 hi (by omega)
        refine place _ g c0 (updL (updL cur.toList ((i + 1) * 2) (us0.drop (i * 2))) (i * 2) us2) rest' hgl hgx (fr_trans (fr_trans (fr_drew w) (fr_setCells (.inl ⟨_, hgl⟩) _ _ _)) (fr_setCells (.inl ⟨_, hgl⟩) _ _ _)) (by rw [setCells_size, setCells_size]; rfl) ?_ hroom hgm (by rw [updL_len, updL_len, hcl]) (by rw [hrest, hr'])
        have a := setCells_obj (us0.drop (i * 2)) ((i + 1) * 2) (show w.drew.heap[g]? = _ from hgo)
        have b := setCells_obj us2 (i * 2) a
        simpa using b
      · obtain rfl : i = rows.length := by omega
        have h := R.eroom g rows.length c0 vb c2 us2 w hroom (by unfold maxLen at hgm; omega) ul2 (fun j hj => hcell _ (by omega)) (fun j _ => hfrz _) hvc hc2
        refine Calls.mono h ?_
        rintro ex w' ⟨rfl, rfl⟩
        refine place _ g c0 (updL cur.toList (rows.length * 2) us2) (rest.drop 2) hgl hgx (fr_setCells ⟨_, hgl⟩ _ _ _) (by rw [setCells_size]) ?_ hroom hgm (by rw [updL_len, hcl]) ?_
        · exact setCells_obj us2 (rows.length * 2) hgo
        · rw [updL_eq _ _ _ (by rw [hcl, ul2]; omega), hrest, List.take_left' ul0, ul2, ← ul0, List.drop_length_add_append, List.take_length, List.drop_length]
          simp
    · by_cases hin : i < rows.length
      · have h := R.grow g rows.length c0 i vb c2 us0 us2 w hin hgn (by omega) (by omega) ul0 ul2 hgc hvc hc0 hc2
        refine Calls.mono h ?_
        rintro ex w' ⟨rfl, rfl⟩
        have gm := grownCap_le_maxLen w (rows.length + 1) c0 t2 (by unfold maxLen; omega)
        have gg := grownCap_ge w (rows.length + 1) c0 t2
        obtain ⟨rest', hr'⟩ := grow_list (cs := us0) (vs := us2) (Z := (Builtin.zeroCells zc (rows.length + 1 - i) ++ Builtin.zeroCells zc (grownCap w (rows.length + 1) c0 t2 - (rows.length + 1))).toList) (n := rows.length) (i := i) ul0 ul2 hi
          (by simp only [Array.toList_append, List.length_append, Array.length_toList, hzc]; omega)
        refine fresh _ (grownCap w (rows.length + 1) c0 t2) (updL (updL (us0.take (i * 2) ++ (Builtin.zeroCells zc (rows.length + 1 - i) ++ Builtin.zeroCells zc (grownCap w (rows.length + 1) c0 t2 - (rows.length + 1))).toList) (i * 2) us2) ((i + 1) * 2) (us0.drop (i * 2))) rest'
          (fr_trans (fr_trans (fr_trans (fr_alloc w _) (fr_drew _)) (fr_trans (fr_setCells (.inr (Nat.le_refl _)) _ _ _) (fr_drew _))) (fr_setCells (.inr (Nat.le_refl _)) _ _ _)) (by rw [setCells_size]; show (World.setCells _ _ _ _).heap.size = _; rw [setCells_size]; show (w.heap.push _).size = _; rw [Array.size_push]) ?_ gg gm ?_ hr'
        · have a := setCells_obj us2 (i * 2) (w := (w.alloc (.cells ((us0.take (i * 2)).toArray ++ Builtin.zeroCells zc (rows.length + 1 - i) ++ Builtin.zeroCells zc (grownCap w (rows.length + 1) c0 t2 - (rows.length + 1))) t2)).drew) (b := w.heap.size) (show (w.heap.push _)[w.heap.size]? = _ from Array.getElem?_push_size)
          have b := setCells_obj (us0.drop (i * 2)) ((i + 1) * 2) (w := ((w.alloc (.cells ((us0.take (i * 2)).toArray ++ Builtin.zeroCells zc (rows.length + 1 - i) ++ Builtin.zeroCells zc (grownCap w (rows.length + 1) c0 t2 - (rows.length + 1))) t2)).drew.setCells w.heap.size (i * 2) us2).drew) a
          simpa [List.append_assoc] using b
        · simp only [updL_len, List.length_append, Array.toList_append, Array.length_toList, hzc, List.length_take]; omega
      · obtain rfl : i = rows.length := by omega
        have h := R.egrow (some ⟨g, 0, none⟩) rows.length c0 vb c2 us0 us2 w hgn (by omega) (by omega) ul0 ul2 (fun h => by cases h) (fun a ha j v hj => by cases ha; rw [add_lit, Nat.zero_add]; exact hgc j v hj) hvc hc2
        refine Calls.mono h ?_
        rintro ex w' ⟨rfl, rfl⟩
        have gm := grownCap_le_maxLen w (rows.length + 1) c0 t2 (by unfold maxLen; omega)
        have gg := grownCap_ge w (rows.length + 1) c0 t2
        refine fresh _ (grownCap w (rows.length + 1) c0 t2) (us0 ++ us2 ++ (Builtin.zeroCells zc (grownCap w (rows.length + 1) c0 t2 - (rows.length + 1))).toList) (Builtin.zeroCells zc (grownCap w (rows.length + 1) c0 t2 - (rows.length + 1))).toList (fr_trans (fr_drew w) (fr_alloc _ _)) (by show (w.heap.push _).size = _; rw [Array.size_push]) ?_ gg gm ?_ ?_
        · show (w.heap.push _)[w.heap.size]? = _
          rw [Array.getElem?_push_size]
          simp
        · simp only [List.length_append, Array.length_toList, hzc, ul2, ul0]; omega
        · rw [← ul0, List.take_length, List.drop_length, List.append_nil]
end Go.Bv

namespace Go.Bv
open Go.RowKit
def keptL (p : Nat → Bool) (k : Nat) (us : List Value) : Nat → List Value
  | 0 => []
  | j + 1 => keptL p k us j ++ (if p j = true then [] else (us.drop (j * k)).take k)
def keptN (p : Nat → Bool) : Nat → Nat
  | 0 => 0
  | j + 1 => keptN p j + (if p j = true then 0 else 1)
theorem keptN_le (p : Nat → Bool) : ∀ n, keptN p n ≤ n
  | 0 => Nat.le_refl _
  | n + 1 => by
    have := keptN_le p n
    rw [keptN]; split <;> omega
theorem keptL_len (p : Nat → Bool) (k : Nat) (us : List Value) : ∀ n, n * k ≤ us.length → (keptL p k us n).length = keptN p n * k
  | 0, _ => by simp [keptL, keptN]
  | n + 1, h => by
    rw [Nat.add_mul, Nat.one_mul] at h
    rw [keptL, keptN, List.length_append, keptL_len p k us n (by omega)]
    by_cases q : p n = true
    · rw [if_pos q, if_pos q]; simp
    · rw [if_neg q, if_neg q, List.length_take, List.length_drop, Nat.add_mul]; omega
theorem keptL_all {p : Nat → Bool} {k : Nat} {us : List Value} : ∀ n, (∀ j, j < n → p j = false) → keptL p k us n = us.take (n * k) ∧ keptN p n = n
  | 0, _ => by simp [keptL, keptN]
  | n + 1, h => by
    obtain ⟨h1, h2⟩ := keptL_all (p := p) (k := k) (us := us) n (fun j hj => h j (by omega))
    have q : ¬ (p n = true) := by rw [h n (by omega)]; decide
    rw [keptL, keptN, if_neg q, if_neg q, h1, h2, Nat.add_mul, Nat.one_mul, ← List.take_add]
    exact ⟨rfl, rfl⟩
theorem kept_dvl {P : Program} {w : World} {k : Nat} {α : Type} {l : List α} {cf : α → List AV} {us : List Value} {F : List Nat} {p : Nat → Bool} {pr : α → Bool} (hk : ∀ x, (cf x).length = k) (h : DVL P w (l.map cf).flatten us F)
    (hp : ∀ j x, l[j]? = some x → p j = pr x) : ∀ n, n ≤ l.length → ∃ F1 F2 F', F = F1 ++ F2 ∧ DVL P w ((l.drop n).map cf).flatten (us.drop (n * k)) F2 ∧ List.Sublist F' F1 ∧
      DVL P w (((l.take n).filter fun x => !pr x).map cf).flatten (keptL p k us n) F' ∧ ((l.take n).filter fun x => !pr x).length = keptN p n
  | 0, _ => ⟨[], F, [], rfl, by simpa using h, List.Sublist.refl _, by simp [keptL, DVL], by simp [keptN]⟩
  | n + 1, hn => by
    obtain ⟨F1, F2, F', e, h1, h2, h3, h4⟩ := kept_dvl hk h hp n (by omega)
    have hlt : n < l.length := hn
    have hc : (cf l[n]).length = k := hk _
    rw [List.drop_eq_getElem_cons hlt, List.map_cons, List.flatten_cons] at h1
    obtain ⟨u1, u2, G1, G2, e1, e2, g1, g2⟩ := h1.split
    have hu1 : u1.length = k := g1.length.trans hc
    have t1 : (us.drop (n * k)).take k = u1 := by rw [e1]; exact List.take_left' hu1
    have t2 : us.drop ((n + 1) * k) = u2 := by
      rw [Nat.add_mul, Nat.one_mul, ← List.drop_drop, e1]; exact List.drop_left' hu1
    have hpn := hp n _ (List.getElem?_eq_getElem hlt)
    rw [List.take_succ_eq_append_getElem hlt, List.filter_append, keptL, keptN, t1, t2, List.map_append]
    by_cases q : p n = true
    · have q' : pr l[n] = true := hpn ▸ q
      refine ⟨F1 ++ G1, G2, F', by rw [e, e2, List.append_assoc], g2, h2.trans (List.sublist_append_left _ _), ?_, ?_⟩
      · rw [if_pos q]
        simpa [q'] using h3
      · rw [if_pos q]
        simpa [q'] using h4
    · have q' : pr l[n] = false := by rw [← hpn]; simpa using q
      refine ⟨F1 ++ G1, G2, F' ++ G1, by rw [e, e2, List.append_assoc], g2, List.Sublist.append h2 (List.Sublist.refl _), ?_, ?_⟩
      · rw [if_neg q]
        have := h3.append g1
        simpa [q'] using this
      · rw [if_neg q]
        simpa [q'] using h4
structure DfRoads (P : Program) (f k : Nat) (e : TypeId) : Prop where
  go : ∀ (b n c g : Nat) (lb : Array Value) (us rest : List Value) (p : Nat → Bool) (w : World),
    w.heap[b]? = some (.cells (us ++ rest).toArray e (0, 0)) → us.length = n * k → n ≤ c → c ≤ maxLen → (us ++ rest).length = c * k → (∀ v ∈ us, v.oneCell' = true) → (∀ args w, (callFunc g args).run P w = .ok (.enter g args) w) →
    (∀ (W : World) (j : Nat), j < n → Fr (fun x => x = b) w W → Calls P g (#[.agg ((us.drop (j * k)).take k).toArray] ++ lb) W fun e w' => e = .returned (.bool (p j)) ∧ Fr (fun _ => False) W w') →
    Calls P f #[.slice (some ⟨b, 0, none⟩) n c, .func (.func g) #[] lb] w fun e' w' => e' = .returned (.slice (some ⟨b, 0, none⟩) (keptN p n) c) ∧ Fr (fun x => x = b) w w' ∧ ∃ rest', w'.heap[b]? = some (.cells (keptL p k us n ++ rest').toArray e (0, 0)) ∧ (keptL p k us n ++ rest').length = c * k
  nil : ∀ (g : Nat) (lb : Array Value) (w : World), Calls P f #[.slice none 0 0, .func (.func g) #[] lb] w fun e w' => e = .returned (.slice none 0 0) ∧ Fr (fun _ => False) w w'
theorem Fr.wide {Z Z' : Nat → Prop} {w w' : World} (h : Fr Z w w') (hz : ∀ b, b < w.heap.size → Z b → Z' b) : Fr Z' w w' :=
  ⟨h.os, h.tape, h.output, h.size, fun b hb hn => h.block b hb (fun q => hn (hz b hb q))⟩
mutual
theorem DV.one {P : Program} {w : World} : ∀ (v : AV) (u : Value) (F : List Nat), DV P w v u F → u.oneCell' = true
  | .int _ _, _, _, ⟨h, _⟩ => by rw [h]; rfl
  | .bool _, _, _, ⟨h, _⟩ => by rw [h]; rfl
  | .str _, _, _, ⟨h, _⟩ => by rw [h]; rfl
  | .sl xs, u, F, ⟨e, sz, us, F', h1, h2, h3, h4⟩ => by
    rcases h2.2 with ⟨rfl, _⟩ | ⟨g, cap, cur, rfl, _⟩ <;> rfl
  | .undef, _, _, h => h.elim
  | .agg _, _, _, h => h.elim
  | .tup _, _, _, h => h.elim
  | .vptr _, _, _, h => h.elim
  | .func _ _, _, _, h => h.elim
  | .mp _ _, _, _, h => h.elim
  | .slx, _, _, h => h.elim
  | .raw _, _, _, h => h.elim
theorem DVL.one {P : Program} {w : World} : ∀ (cs : List AV) (us : List Value) (F : List Nat), DVL P w cs us F → ∀ v ∈ us, v.oneCell' = true
  | [], _, _, ⟨e, _⟩, v, hv => by rw [e] at hv; cases hv
  | c :: cs, us, F, ⟨u, r, F1, F2, h1, h2, h3, h4⟩, v, hv => by
    rw [h1] at hv
    rcases List.mem_cons.1 hv with rfl | hv
    · exact DV.one c _ F1 h3
    · exact DVL.one cs r F2 h4 v hv
end
theorem dvl_row {P : Program} {w : World} {k : Nat} : ∀ {rows : List (List AV)} {us : List Value} {F : List Nat}, (∀ c ∈ rows, c.length = k) → DVL P w rows.flatten us F → ∀ j c, rows[j]? = some c → ∃ Fc, (∀ b ∈ Fc, b ∈ F) ∧ DVL P w c ((us.drop (j * k)).take k) Fc
  | [], us, F, _, _, j, c, hj => by simp at hj
  | d :: rows, us, F, hk, h, j, c, hj => by
    rw [List.flatten_cons] at h
    obtain ⟨u1, u2, F1, F2, e1, e2, h1, h2⟩ := h.split
    have hl : u1.length = k := h1.length.trans (hk d (by simp))
    cases j with
    | zero =>
      have : d = c := by simpa using hj
      subst this
      refine ⟨F1, fun b hb => by rw [e2]; simp [hb], ?_⟩
      rw [Nat.zero_mul, List.drop_zero, e1, List.take_left' hl]
      exact h1
    | succ j =>
      obtain ⟨Fc, g1, g2⟩ := dvl_row (fun c hc => hk c (by simp [hc])) h2 j c (by simpa using hj)
      refine ⟨Fc, fun b hb => by rw [e2]; simp [g1 b hb], ?_⟩
      rw [e1, Nat.add_mul, Nat.one_mul, Nat.add_comm, ← List.drop_drop, List.drop_left' hl]
      exact g2
theorem delfunc_O {P : Program} {f k : Nat} {e : TypeId} (R : DfRoads P f k e) (hz : sizeP P e = some k) (he : e ≠ anyT) {α : Type} {l : List α} {cf : α → List AV} (hcf : ∀ x, (cf x).length = k) {g : Nat} {caps : List AV} {pr : α → Bool}
    (hen : ∀ args w, (callFunc g args).run P w = .ok (.enter g args) w) (hcl : ∀ x ∈ l, FnO P g (.v (.agg (cf x)) [] :: caps.map (fun x => .v x [])) (.v (.bool (pr x)) []) []) :
    FnO P f [.v .slx [(0, .ex e true (l.map cf))], .v (.func g caps) []] (.v .slx [(0, .ex e true ((l.filter fun x => !pr x).map cf))]) [] := by
  intro X w us lab hin hX hgt
  obtain ⟨u0, r0, rfl, ⟨h0a, h0b⟩, u1, r1, rfl, ⟨h1a, h1b⟩, h2⟩ := hin
  have h2 : r1 = [] := h2
  subst h2
  obtain ⟨lbs, rfl, hcaps⟩ := h1a
  obtain ⟨A0, l0, c0, rfl⟩ := h0a
  obtain ⟨_, q0, F0, e0, R0, L0⟩ := h0b 0 _ (List.mem_singleton.2 rfl)
  have e0 : q0 = .slice A0 l0 c0 := (Option.some.inj e0).symm
  subst e0
  obtain ⟨t0, z0, us0, F', d0, k0, o0, n0, m0, p0, nd, x0⟩ := R0
  have m0 : DVL P w (l.map cf).flatten us0 F' := m0
  have hml : (l.map cf).length = l.length := List.length_map ..
  rw [hml] at o0
  obtain rfl : t0 = e := d0.resolve_right he
  obtain rfl : z0 = k := Option.some.inj (k0.symm.trans hz)
  subst p0
  have ul0 : us0.length = l.length * z0 := o0.1
  rcases o0.2 with ⟨hnil, hz0⟩ | ⟨g0, cap, cur, hv, _, hgo, hgn, hgm, hgs, hgt'⟩
  · cases hnil
    have hr : l = [] := List.length_eq_zero_iff.1 hz0
    refine Calls.mono (R.nil g lbs.toArray w) ?_
    rintro ex w' ⟨rfl, hf⟩
    refine ⟨_, X, lab, rfl, hf.wide (fun _ _ h => h.elim), fun b _ hb => ⟨rfl, hb⟩, fun b hb => hX b (Nat.le_trans hf.size hb), ⟨⟨_, _, _, rfl⟩, fun j oe hj => ?_⟩, fun _ _ h => by cases h⟩
    obtain ⟨rfl, rfl⟩ := Prod.mk.inj (List.mem_singleton.1 hj)
    subst hr
    refine ⟨rfl, _, [], rfl, ⟨t0, z0, [], [], .inl rfl, hz, ⟨by simp, .inl ⟨rfl, rfl⟩⟩, by simp, ⟨rfl, rfl⟩, rfl, by simp, by simp⟩, by simp⟩
  · cases hv
    have hgl : lab g0 = some (0, 1) := L0 g0 (by simp [mem_blks, Value.ownBlock])
    have hgx : X g0 = some 0 := x0 g0 (by simp [mem_blks, Value.ownBlock])
    have hb0 : blks (.slice (some ⟨g0, 0, none⟩) l.length c0) = [g0] := rfl
    rw [hb0] at nd x0 L0
    have hnin : g0 ∉ F' := by
      have := (List.nodup_append.1 nd).2.2
      intro h
      exact this g0 (by simp) g0 h rfl
    obtain ⟨rest, hrest⟩ : ∃ rest, cur.toList = us0 ++ rest := ⟨cur.toList.drop (l.length * z0), by rw [← hgt', List.take_append_drop]⟩
    have hcur : cur = (us0 ++ rest).toArray := by rw [← hrest]
    subst hcur
    have hlt : g0 < w.heap.size := (Array.getElem?_eq_some_iff.1 hgo).1
    have hsame : ∀ (W : World), Fr (fun x => x = g0) w W → ∀ b, b < w.heap.size → b ≠ g0 → W.heap[b]? = w.heap[b]? := fun W hW b hb hn => hW.block b hb hn
    have hFlt : ∀ b ∈ F', b < w.heap.size := DVL.lt _ _ _ m0
    have hZ : ∀ (W : World), Fr (fun x => x = g0) w W → Fr (fun b => ∃ q, lab b = some q) w W := fun W hW => hW.wide (fun b _ hb => by rw [hb]; exact ⟨_, hgl⟩)
    have hpred : ∀ (W : World) (j : Nat), j < l.length → Fr (fun x => x = g0) w W → Calls P g (#[.agg ((us0.drop (j * z0)).take z0).toArray] ++ lbs.toArray) W fun e w' => e = .returned (.bool (((l[j]?).map pr).getD false)) ∧ Fr (fun _ => False) W w' := by
      intro W j hj hW
      have hjj : l[j]? = some l[j] := List.getElem?_eq_getElem hj
      have hm : l[j] ∈ l := List.getElem_mem hj
      obtain ⟨Fc, hFc, hd⟩ := dvl_row n0 m0 j (cf l[j]) (by rw [List.getElem?_map, hjj]; rfl)
      rw [hjj]
      show Calls P g _ W fun e w' => e = .returned (.bool (pr l[j])) ∧ Fr (fun _ => False) W w'
      generalize l[j] = c at hm hd
      have hd' := DVL.stay (w' := W) _ _ _ hd (fun b hb => hsame W hW b (hFlt b (hFc b hb)) (fun h => hnin (h ▸ hFc b hb)))
      have X1n : ∀ b ∈ F', (fun x => if x ∈ F' then none else X x : Gh) b = none := fun b hb => if_pos hb
      have hcap : RelL (fun x => if x ∈ F' then none else X x) W caps lbs := by
        refine RelL.mono ⟨fun b o u hc hk => ?_, fun r es q hr hk => ?_⟩ _ _ hcaps
        · have hn : b ≠ g0 := fun h => by
            rw [h] at hk
            unfold okc at hk
            rw [hgx] at hk
            exact absurd hk (Nat.not_lt_zero _)
          have hb : b < w.heap.size := by
            rcases Nat.lt_or_ge b w.heap.size with h | h
            · exact h
            · rw [World.cell?, Array.getElem?_eq_none h] at hc; cases hc
          refine ⟨by rw [World.cell?, hsame W hW b hb hn]; exact hc, ?_⟩
          unfold okc at hk ⊢
          by_cases hm : b ∈ F'
          · simp only [if_pos hm]
          · simp only [if_neg hm]; exact hk
        · have hn : r ≠ g0 := fun h => by rw [h, hgx] at hk; cases hk
          have hb : r < w.heap.size := (Array.getElem?_eq_some_iff.1 hr).1
          refine ⟨(hsame W hW r hb hn).trans hr, ?_⟩
          by_cases hm : r ∈ F'
          · exact if_pos hm
          · exact (if_neg hm).trans hk
      have hh := hcl c hm (fun x => if x ∈ F' then none else X x) W (.agg ((us0.drop (j * z0)).take z0).toArray :: lbs) (fun _ => none)
        ⟨_, _, rfl, ⟨⟨_, rfl, DVL.rel _ _ _ hd' (fun b hb => X1n b (hFc b hb))⟩, fun j oe hj => by cases hj⟩, by
          clear hcl
          have : ∀ (i : Nat) (cs : List AV) (vs : List Value), RelL (fun x => if x ∈ F' then none else X x) W cs vs → AIns P (fun x => if x ∈ F' then none else X x) W (fun _ => none) i (cs.map fun x => .v x []) vs := by
            intro i cs
            induction cs generalizing i with
            | nil => intro vs h; exact h
            | cons c cs ih =>
              rintro vs ⟨u, r, e, h1, h2⟩
              exact ⟨u, r, e, ⟨h1, fun j oe hj => by cases hj⟩, ih _ _ h2⟩
          exact this _ _ _ hcap⟩
        (fun b hb => ⟨by
          have : b ∉ F' := fun h => by have := hFlt b h; have := hW.size; omega
          exact (if_neg this).trans (hX b (Nat.le_trans hW.size hb)).1, rfl⟩)
        (hgt.on (hZ W hW) (fun b _ h => by obtain ⟨q, h⟩ := h; cases h))
      have ea : (Value.agg ((us0.drop (j * z0)).take z0).toArray :: lbs).toArray = #[Value.agg ((us0.drop (j * z0)).take z0).toArray] ++ lbs.toArray := by simp
      rw [ea] at hh
      refine Calls.mono hh ?_
      rintro ex w' ⟨u, X', lab', rfl, hf, _, _, ⟨hu, _⟩, _⟩
      have hu : u = .bool (pr c) := hu
      subst hu
      exact ⟨rfl, hf.wide (fun b _ h => by obtain ⟨q, h⟩ := h; cases h)⟩
    have h := R.go g0 l.length c0 g lbs.toArray us0 rest (fun j => ((l[j]?).map pr).getD false) w hgo ul0 hgn hgm (by simpa using hgs) (DVL.one _ _ _ m0) hen hpred
    refine Calls.mono h ?_
    rintro ex w' ⟨rfl, hf, rest', h1, h2⟩
    obtain ⟨F1, F2, F3, e1, _, g1, g2, g3⟩ := kept_dvl (p := (fun j => ((l[j]?).map pr).getD false)) (pr := pr) hcf m0 (fun j x hj => by rw [hj]; rfl) l.length (Nat.le_refl _)
    rw [List.take_length] at g2 g3
    have g3 := (List.length_map (f := cf) (as := l.filter fun x => !pr x)).trans g3
    have sub : ∀ b ∈ F3, b ∈ F' := fun b hb => by rw [e1]; exact List.mem_append_left _ (g1.mem hb)
    have nd3 : F3.Nodup := g1.nodup (by
      have := (List.nodup_append.1 nd).2.1
      rw [e1] at this
      exact (List.nodup_append.1 this).1)
    refine ⟨_, X, lab, rfl, hZ w' hf, fun b _ hb => ⟨rfl, hb⟩, fun b hb => hX b (Nat.le_trans hf.size hb), ⟨⟨_, _, _, rfl⟩, fun j oe hj => ?_⟩, fun _ _ h => by cases h⟩
    obtain ⟨rfl, rfl⟩ := Prod.mk.inj (List.mem_singleton.1 hj)
    have hkl : (keptL (fun j => ((l[j]?).map pr).getD false) z0 us0 l.length).length = keptN (fun j => ((l[j]?).map pr).getD false) l.length * z0 := keptL_len _ _ _ _ (by rw [ul0]; exact Nat.le_refl _)
    refine ⟨rfl, _, g0 :: F3, rfl, ⟨t0, z0, keptL (fun j => ((l[j]?).map pr).getD false) z0 us0 l.length, F3, .inl rfl, hz, ⟨by rw [hkl, g3], .inr ⟨g0, c0, (keptL (fun j => ((l[j]?).map pr).getD false) z0 us0 l.length ++ rest').toArray, by rw [g3], Nat.zero_le _, h1, ?_, hgm, by simpa using h2, ?_⟩⟩,
      fun c hc => by obtain ⟨x, _, rfl⟩ := List.mem_map.1 hc; exact hcf x, DVL.stay _ _ _ g2 (fun b hb => hsame w' hf b (hFlt b (sub b hb)) (fun h => hnin (h ▸ sub b hb))), rfl, ?_, fun b hb => ?_⟩, fun b hb => ?_⟩
    · rw [g3]; exact Nat.le_trans (keptN_le _ _) hgn
    · exact take_pre (b := rest') rfl (by rw [hkl, g3])
    · exact List.nodup_cons.2 ⟨fun h => hnin (sub _ h), nd3⟩
    · rcases List.mem_cons.1 hb with rfl | hb
      · exact hgx
      · exact x0 b (List.mem_append_right _ (sub b hb))
    · rcases List.mem_cons.1 hb with rfl | hb
      · exact hgl
      · exact L0 b (List.mem_append_right _ (sub b hb))
end Go.Bv

/- Values of calls, told abstractly, with what is held: part 4. -/
import Derived.Test.YtjaaacbiaimdlaaGreatDoorAvc
import Derived.Deep.AppendSrc
set_option linter.unusedVariables false
set_option linter.unusedSimpArgs false
namespace Go.Bv
open Go.RowKit
theorem FnO.un {P : Program} {f : Nat} {args : List AD} {x : AV} {own : OwnL} {outs : List (Nat × AD)} (h : FnO P f args (.v x own) outs) : FnO P f args (.v x []) outs :=
 fun X w us lab hin hX hgt => (h X w us lab hin hX hgt).mono fun e w' ⟨u, X', lab', h1, h2, h3, h4, h5, h6⟩ => ⟨u, X', lab', h1, h2, h3, h4, ⟨h5.1, fun j oe hj => by cases hj⟩, h6⟩
def nsum {α : Type} (n : α → Nat) : List α → Nat
 | [] => 0
 | x :: l => 1 + n x + nsum n l
theorem Zar {α : Type} (n : α → Nat) : ∀ l : List α, l.length ≤ nsum n l
 | [] => Nat.le_refl _
 | x :: l => by have := Zar n l; simp only [nsum, List.length_cons]; omega
theorem Z7q {α : Type} {n : α → Nat} : ∀ {l : List α} {x : α}, x ∈ l → 1 + n x ≤ nsum n l
 | y :: l, x, h => by
  simp only [nsum]
  rcases List.mem_cons.1 h with rfl | h
  ·omega
  ·have := Z7q (n := n) h; omega
theorem Zer {α : Type} (n : α → Nat) : ∀ l m : List α, nsum n (l ++ m) = nsum n l + nsum n m
 | [], m => by simp [nsum]
 | x :: l, m => by simp only [List.cons_append, nsum, Zer n l m]; omega
theorem Zrl {α : Type} {l : List α} {f : α → Int → Option Int} {L : Nat → Int → Int → Option (Out Int Int)} {n : α → Nat} (hl : l.length ≤ maxLen)
  (hf : ∀ x ∈ l, ∀ b, 0 ≤ b → b ≤ Small → ∃ r, f x b = some r ∧ -1 ≤ r ∧ (0 ≤ r → r + (n x : Int) ≤ b))
  (hs : ∀ m b i, L (m + 1) b i = if (decide (i < (l.length : Int))) = true then (at' l i).bind fun x => (f x b).bind fun r => if (decide (r < 0)) = true then some (.ret (-1)) else L m r (wr.i64 (i + 1)) else some (.done b)) :
  ∀ (m j : Nat) (b : Int), j ≤ l.length → l.length - j < m → 0 ≤ b → b ≤ Small → ∃ o, L m b (j : Int) = some o ∧ (match o with | .ret r => r = -1 | .done b' => 0 ≤ b' ∧ b' + (nsum n (l.drop j) : Int) ≤ b + ((l.length - j : Nat) : Int))
 | 0, j, b, h1, h2, h3, h4 => by omega
 | m + 1, j, b, h1, h2, h3, h4 => by
  rw [hs]
  by_cases hlt : j < l.length
  ·rw [if_pos (by simpa using hlt), Z4c hlt]
   simp only [Option.bind_some]
   obtain ⟨r, hr, hr1, hr2⟩ := hf l[j] (List.getElem_mem hlt) b h3 h4
   rw [hr]
   simp only [Option.bind_some]
   split
   ·exact ⟨_, rfl, rfl⟩
   ·rename_i h
    simp at h
    have hr3 := hr2 h
    rw [Z3v hlt hl]
    obtain ⟨o, h5, h6⟩ := Zrl hl hf hs m (j + 1) r (by omega) (by omega) h (by omega)
    refine ⟨o, h5, ?_⟩
    cases o with
    | ret r => exact h6
    | done b' =>
     refine ⟨h6.1, ?_⟩
     rw [List.drop_eq_getElem_cons hlt]
     have h7 := h6.2
     simp only [nsum]
     omega
  ·rw [if_neg (by simpa using hlt)]
   refine ⟨_, rfl, h3, ?_⟩
   rw [List.drop_of_length_le (by omega)]
   simp only [nsum]; omega
theorem sz2 {α : Type} {l : List α} {f : α → Int → Option Int} {L : Nat → Int → Int → Option (Out Int Int)} {n : α → Nat} (hl : l.length ≤ maxLen)
  (hf : ∀ x ∈ l, ∀ b, 0 ≤ b → b ≤ Small → ∃ r, f x b = some r ∧ -1 ≤ r ∧ (0 ≤ r → r + (n x : Int) ≤ b))
  (hs : ∀ m b i, L (m + 1) b i = if (decide (i < (l.length : Int))) = true then (at' l i).bind fun x => (f x b).bind fun r => if (decide (r < 0)) = true then some (.ret (-1)) else L m r (wr.i64 (i + 1)) else some (.done b))
  {k : Nat} (hk : maxLen < k) (b : Int) (h0 : 0 ≤ b) (h1 : b ≤ Small) : ∃ r, (if (decide ((wr.i64 (b - (l.length : Int))) < 0)) = true then some (-1) else
   (L k (wr.i64 (b - (l.length : Int))) 0).bind fun out => match out with | .ret r => some r | .done b => some b) = some r ∧ -1 ≤ r ∧ (0 ≤ r → r + (nsum n l : Int) ≤ b) := by
 have hm := hl
 rw [Zl] at hm
 unfold Small at h1
 rw [Z4w (by omega) (by omega)]
 split
 ·exact ⟨_, rfl, by omega, by omega⟩
 ·rename_i h
  simp at h
  obtain ⟨o, h3, h4⟩ := Zrl hl hf hs k 0 (b - (l.length : Int)) (by omega) (by omega) (by omega) (by unfold Small; omega)
  rw [show ((0 : Nat) : Int) = 0 from rfl] at h3
  rw [h3]
  cases o with
  | ret r => exact ⟨r, rfl, by omega, by omega⟩
  | done b' =>
   have h5 := h4.2
   rw [List.drop_zero] at h5
   exact ⟨b', rfl, by omega, fun _ => by omega⟩
end Go.Bv

namespace Go.Bv
open Go.RowKit
abbrev aI (x : Int) : AV := .int .i64 x
abbrev tP (n d : Nat) : Nat × (SV × OwnL) := (n, (.ptr d 0, []))
abbrev tV (n : Nat) (v : AV) : Nat × (SV × OwnL) := (n, (.v v, []))
abbrev tI (n : Nat) (x : Int) : Nat × (SV × OwnL) := (n, (.v (.int .i64 x), []))
abbrev tB (n : Nat) (x : Bool) : Nat × (SV × OwnL) := (n, (.v (.bool x), []))
abbrev tS (n : Nat) (x : ByteArray) : Nat × (SV × OwnL) := (n, (.v (.str x), []))
abbrev bC (n : Nat) (l : List AV) : Nat × BX := (n, (.cells l []))
section
variable {En : Env} {st : St} {K : AE → St → Prop} {id : Nat} {ops : Array Oper}
theorem Wc.r3 (hs : List Hint) (fs : List Fix) (st' : St) {obs : List Prop} (hob : AllP obs) (hK : K .normal st')
  (h : aReg En.P En.n ops hs fs st (st'.t.map Prod.fst) (st'.b.map Prod.fst) (st'.g.map Prod.fst) = some (st', obs) := by kernel_rfl) : Wc En (.region id ops false) st K :=
 Wc.region hs fs _ _ _ st' obs h hob hK
theorem Wc.r2 (hs : List Hint) (st' : St) {obs : List Prop} (hob : AllP obs) (hK : K .normal st')
  (h : aReg En.P En.n ops hs [] st (st'.t.map Prod.fst) (st'.b.map Prod.fst) (st'.g.map Prod.fst) = some (st', obs) := by kernel_rfl) : Wc En (.region id ops false) st K :=
 Wc.region hs [] _ _ _ st' obs h hob hK
theorem Wc.r1 (hs : List Hint) (st' : St) (hK : K .normal st')
  (h : aReg En.P En.n ops hs [] st (st'.t.map Prod.fst) (st'.b.map Prod.fst) (st'.g.map Prod.fst) = some (st', []) := by kernel_rfl) : Wc En (.region id ops false) st K :=
 Wc.region hs [] _ _ _ st' [] h .nil hK
theorem Wc.r0 (st' : St) (hK : K .normal st')
  (h : aReg En.P En.n ops [] [] st (st'.t.map Prod.fst) (st'.b.map Prod.fst) (st'.g.map Prod.fst) = some (st', []) := by kernel_rfl) : Wc En (.region id ops false) st K :=
 Wc.region [] [] _ _ _ st' [] h .nil hK
theorem Wc.fx {c : Code} (fs : List Fix) (st' : St) (hc : Wc En c st' K) (h : ((Zi3 st fs).bind fun s => s.keep (st'.t.map Prod.fst) (st'.b.map Prod.fst) (st'.g.map Prod.fst)) = some st' := by kernel_rfl) : Wc En c st K :=
 Wc.fix fs _ _ _ h hc
theorem Wc.cT {c : Operand} {x y : Code} {b : Bool} (hb : b = true) (h : Wc En x st K) (hc : evV st.look c = some (.bool b) := by kernel_rfl) : Wc En (.cond c x y) st K := Wc.condT hb hc h
theorem Wc.cF {c : Operand} {x y : Code} {b : Bool} (hb : b = false) (h : Wc En y st K) (hc : evV st.look c = some (.bool b) := by kernel_rfl) : Wc En (.cond c x y) st K := Wc.condF hb hc h
end
theorem dn {α β : Type} {x y : α} {z w : β} {p : Prop} (h1 : x = y := by kernel_rfl) (h2 : z = w := by kernel_rfl) : (AE.ret = AE.ret ∨ p) ∧ x = y ∧ z = w := ⟨.inl rfl, h1, h2⟩
theorem FnO.o2 {P : Program} {f : Nat} {fn : Func} {c : Code} {args : List AD} {r : AD} {outs : List (Nat × AD)} (hf : P.funcs[f]? = some fn) (hb : fn.body = some c)
  (h : ∀ w0 X0 Fin pv0 pb gt, Wc ⟨P, w0, X0, Fin, pv0, pb, fn.ntmps, gt⟩ c (Z110 args) (fun e st => (e = .ret ∨ e = .normal) ∧ (Zt5 P st fn.results.toList).map Prod.fst = some r ∧ Zfv st 0 args = some outs))
  (h1 : Nat.ble args.length fn.ntmps = true := by kernel_rfl) (h2 : Nat.ble fn.ntmps 1000000 = true := by kernel_rfl) : FnO P f args r outs :=
 FnO.of hf hb (Nat.le_of_ble_eq_true h1) (Nat.le_of_ble_eq_true h2) h
end Go.Bv

namespace Go.Bv
open Go.RowKit
def Ztl {α : Type} (f : Nat → Option (List α)) : List Nat → Option (List α)
 | [] => some []
 | i :: is => match f i, Ztl f is with
  | some l, some m => some (l ++ m)
  | _, _ => none
theorem Zdl {α : Type} {f : Nat → Option (List α)} : ∀ {is : List Nat} {L : List α}, Ztl f is = some L → ∀ i ∈ is, ∃ l, f i = some l ∧ ∀ x ∈ l, x ∈ L
 | [], L, h, i, hi => by cases hi
 | j :: is, L, h, i, hi => by
  rw [Ztl] at h
  split at h
  ·rename_i l m h1 h2
   cases h
   rcases List.mem_cons.1 hi with rfl | hi
   ·exact ⟨l, h1, fun x hx => List.mem_append_left _ hx⟩
   ·obtain ⟨l', e, h3⟩ := Zdl h2 i hi
    exact ⟨l', e, fun x hx => List.mem_append_right _ (h3 x hx)⟩
  ·cases h
theorem Zp0 {α : Type} {f : Nat → Option (List α)} : ∀ {is : List Nat} {L : List α}, Ztl f is = some L → ∀ x ∈ L, ∃ i ∈ is, ∃ l, f i = some l ∧ x ∈ l
 | [], L, h, x, hx => by cases h; cases hx
 | j :: is, L, h, x, hx => by
  rw [Ztl] at h
  split at h
  ·rename_i l m h1 h2
   cases h
   rcases List.mem_append.1 hx with hx | hx
   ·exact ⟨j, List.mem_cons_self .., l, h1, hx⟩
   ·obtain ⟨i, hi, l', e, h3⟩ := Zp0 h2 x hx
    exact ⟨i, List.mem_cons_of_mem _ hi, l', e, h3⟩
  ·cases h
def expl (P : Program) (n : Nat) (ops : Array Oper) (hs : List Hint) (fs : List Fix) (ts bs gs : List Nat) : Nat → Array Bool → St → List (List Prop) → Option (List (St × List (List Prop)))
 | 0, _, _, _ => none
 | fuel + 1, listed, st, O =>
  match Region.ready .any ops listed with
  | [] => match (Zi3 st fs).bind fun s => s.keep ts bs gs with
   | some s' => some [(s', O)]
   | none => none
  | i :: is => Ztl (fun j => match ops[j]? with
   | some o => match Zx5 P n ops.toList st o (hs.getD j {}) with
    | some (s, ob) => expl P n ops hs fs ts bs gs fuel (listed.setIfInBounds j true) s (O.set j ob)
    | none => none
   | none => none) (i :: is)
section
variable {En : Env} {Q : Exit → Act → World → Prop} {ops : Array Oper} {hs : List Hint} {fs : List Fix} {ts bs gs : List Nat}
theorem Zvw {listed : Array Bool} {i j : Nat} {d : Bool} (h : i ≠ j) : (listed.setIfInBounds j true).getD i d = listed.getD i d := by
 simp only [Array.getD_eq_getD_getElem?, Array.getElem?_setIfInBounds]
 rw [if_neg (fun e => h e.symm)]
theorem Zgz : ∀ {fuel : Nat} {listed : Array Bool} {st : St} {O : List (List Prop)} {L : List (St × List (List Prop))}, expl En.P En.n ops hs fs ts bs gs fuel listed st O = some L →
  L ≠ [] ∧ ∀ x ∈ L, ∀ i, listed.getD i true = true → x.2[i]? = O[i]?
 | 0, listed, st, O, L, h => by cases h
 | fuel + 1, listed, st, O, L, h => by
  rw [expl] at h
  split at h
  ·split at h
   ·cases h
    exact ⟨by simp, fun x hx i hi => by rw [List.mem_singleton.1 hx]⟩
   ·cases h
  ·rename_i i0 is hr
   have hrd : ∀ j ∈ i0 :: is, listed.getD j true = false := fun j hj => by
    rw [← hr] at hj
    exact (Z9v.1 hj).2.1
   refine ⟨?_, fun x hx i hi => ?_⟩
   ·obtain ⟨l, e, hl⟩ := Zdl h i0 (List.mem_cons_self ..)
    split at e
    ·split at e
     ·obtain ⟨hne, _⟩ := Zgz e
      obtain ⟨y, hy⟩ := List.exists_mem_of_ne_nil l hne
      exact List.ne_nil_of_mem (hl y hy)
     ·cases e
    ·cases e
   ·obtain ⟨j, hj, l, e, hxl⟩ := Zp0 h x hx
    have hij : i ≠ j := fun e => by rw [e, hrd j hj] at hi; cases hi
    split at e
    ·split at e
     ·have := (Zgz e).2 x hxl i (by rw [Zvw hij]; exact hi)
      rw [this, List.getElem?_set_ne (fun e => hij e.symm)]
     ·cases e
    ·cases e
theorem Zlz {st' : St} {OO : List (List Prop)} (hob : ∀ l ∈ OO, ∀ p ∈ l, p) (hQ : ∀ a w, SR En st'.look a w → Q .normal a w) :
  ∀ (fuel : Nat) (listed : Array Bool) (st : St) (O : List (List Prop)) (L : List (St × List (List Prop))) (a : Act) (w : World), listed.size = ops.size → O.length = ops.size →
   expl En.P En.n ops hs fs ts bs gs (fuel + 1) listed st O = some L → (∀ x ∈ L, x = (st', OO)) → SR En st.look a w → (∀ l ∈ OO, True) → wpAny En.P .any ops Q fuel listed a w
 | fuel, listed, st, O, L, a, w, hsz, hlen, h, hL, hI, _ => by
  have hdone : Region.ready .any ops listed = [] → Q .normal a w := by
   intro hr
   rw [expl, hr] at h
   simp only at h
   split at h
   ·rename_i s' hk
    cases h
    have := hL _ (List.mem_singleton.2 rfl)
    cases this
    rw [Option.bind_eq_some_iff] at hk
    obtain ⟨s1, h1, h2⟩ := hk
    exact hQ a w ((Z88 hI h1).keep h2)
   ·cases h
  cases fuel with
  | zero =>
   refine ⟨?_, ?_⟩
   ·rw [expl] at h
    split at h
    ·assumption
    ·rename_i i0 is hr
     obtain ⟨l, e, hl⟩ := Zdl h i0 (List.mem_cons_self ..)
     split at e
     ·split at e
      ·cases e
      ·cases e
     ·cases e
   ·refine hdone ?_
    rw [expl] at h
    split at h
    ·assumption
    ·rename_i i0 is hr
     obtain ⟨l, e, hl⟩ := Zdl h i0 (List.mem_cons_self ..)
     split at e
     ·split at e
      ·cases e
      ·cases e
     ·cases e
  | succ fuel =>
   refine ⟨hdone, fun i hi => ?_⟩
   obtain ⟨hilt, hun, o, ho, _⟩ := Z9v.1 hi
   have ho' : ops[i]? = some o := by simpa using ho
   rw [expl] at h
   split at h
   ·rename_i hr
    rw [hr] at hi; cases hi
   ·rename_i i0 is hr
    rw [hr] at hi
    obtain ⟨l, e, hl⟩ := Zdl h i hi
    rw [ho'] at e
    simp only at e
    split at e
    ·rename_i s ob hst
     obtain ⟨hne, hkp⟩ := Zgz e
     obtain ⟨y, hy⟩ := List.exists_mem_of_ne_nil l hne
     have hy' := hL y (hl y hy)
     have hobs : ∀ p ∈ ob, p := by
      have h1 := hkp y hy i (by
       simp only [Array.getD_eq_getD_getElem?, Array.getElem?_setIfInBounds]
       rw [if_pos trivial, if_pos (by omega)]; rfl)
      rw [List.getElem?_set_self (by omega)] at h1
      rw [hy'] at h1
      exact hob ob (List.mem_of_getElem? h1)
     unfold wpOp
     rw [ho']
     simp only
     exact Zf7 hI hst hobs (fun a' w' hI' => Zlz hob hQ fuel _ s _ l a' w' (by simp [hsz]) (by simp [hlen]) e (fun x hx => hL x (hl x hx)) hI' (fun _ _ => trivial))
    ·cases e
end
def Zkv : List (List Prop) → Prop
 | [] => True
 | l :: ls => AllP l ∧ Zkv ls
theorem Zkv.nil : Zkv [] := trivial
theorem Zkv.cons {l : List Prop} {ls : List (List Prop)} (h : AllP l) (hs : Zkv ls) : Zkv (l :: ls) := ⟨h, hs⟩
theorem Zkv.mem : ∀ {ls : List (List Prop)}, Zkv ls → ∀ l ∈ ls, ∀ p ∈ l, p
 | [], _, l, hl => by cases hl
 | m :: ms, h, l, hl => by
  rcases List.mem_cons.1 hl with rfl | hl
  ·exact h.1.mem
  ·exact Zkv.mem h.2 l hl
theorem Wc.every {En : Env} (hm : En.P.follows .mixedOrders = true) {st : St} {K : AE → St → Prop} {id : Nat} {ops : Array Oper} (hs : List Hint) (fs : List Fix) (ts bs gs : List Nat) (st' : St) (OO : List (List Prop)) (N : Nat)
  (h : expl En.P En.n ops hs fs ts bs gs (ops.size + 1) (Array.replicate ops.size false) st (List.replicate ops.size []) = some (List.replicate N (st', OO))) (hob : Zkv OO) (hK : K .normal st') : Wc En (.region id ops true) st K := by
 intro a w hI Q hQ
 refine wp_region_any hm ?_
 obtain ⟨G, hI⟩ := hI
 exact Zlz hob.mem (fun a' w' hI' => hQ .normal st' a' w' hK hI') ops.size _ st _ _ a _ (by simp) (by simp) h (fun x hx => List.eq_of_mem_replicate hx) ⟨G, hI.drawn⟩ (fun _ _ => trivial)
end Go.Bv


namespace Go.Bv
open Go.RowKit
def updL : List Value → Nat → List Value → List Value
 | l, _, [] => l
 | l, o, v :: r => updL (l.set o v) (o + 1) r
theorem Zq1 : ∀ (vs : List Value) (l : List Value) (o : Nat), o + vs.length ≤ l.length → updL l o vs = l.take o ++ vs ++ l.drop (o + vs.length)
 | [], l, o, h => by rw [updL]; simp
 | v :: r, l, o, h => by
  rw [List.length_cons] at h
  rw [updL, Zq1 r _ _ (by rw [List.length_set]; omega), List.take_set, List.drop_set, List.length_cons]
  rw [if_pos (by omega)]
  have e : (l.take (o + 1)).set o v = l.take o ++ [v] := by
   rw [List.take_succ_eq_append_getElem (by omega), List.set_append]
   rw [if_neg (by rw [List.length_take]; omega)]
   have : o - (l.take o).length = 0 := by rw [List.length_take]; omega
   rw [this]; rfl
  rw [e, show o + 1 + r.length = o + (r.length + 1) by omega]
  simp
theorem Zq5 {w : World} {b : Nat} {cur : Array Value} {e : TypeId} {z : Nat × Nat} (h : w.heap[b]? = some (.cells cur e z)) (o : Nat) (v : Value) : (w.setCell ⟨b, o, none⟩ v).heap[b]? = some (.cells (cur.setIfInBounds o v) e z) := by
 unfold World.setCell
 simp [Array.getElem?_modify, h]
theorem Zt1 {w : World} {b c : Nat} (hne : c ≠ b) (o : Nat) (v : Value) : (w.setCell ⟨b, o, none⟩ v).heap[c]? = w.heap[c]? := by
 unfold World.setCell
 simp [Array.getElem?_modify]
 intro h; exact absurd h.symm hne
theorem Zd4 {b : Nat} {e : TypeId} {z : Nat × Nat} : ∀ (vs : List Value) (o : Nat) {w : World} {cur : Array Value}, w.heap[b]? = some (.cells cur e z) → (w.setCells b o vs).heap[b]? = some (.cells (updL cur.toList o vs).toArray e z)
 | [], o, w, cur, h => by rw [World.setCells, updL]; simpa using h
 | v :: r, o, w, cur, h => by
  rw [World.setCells, updL]
  have := Zd4 r (o + 1) (Zq5 h o v)
  simpa using this
theorem Ziw {b c : Nat} (hne : c ≠ b) : ∀ (vs : List Value) (o : Nat) (w : World), (w.setCells b o vs).heap[c]? = w.heap[c]?
 | [], o, w => rfl
 | v :: r, o, w => by rw [World.setCells, Ziw hne r, Zt1 hne]
theorem Zfe (b : Nat) : ∀ (vs : List Value) (o : Nat) (w : World), (w.setCells b o vs).heap.size = w.heap.size
 | [], o, w => rfl
 | v :: r, o, w => by rw [World.setCells, Zfe b r]; simp [World.setCell]
theorem Z9a (b : Nat) : ∀ (vs : List Value) (o : Nat) (w : World), (w.setCells b o vs).os = w.os ∧ (w.setCells b o vs).tape = w.tape ∧ (w.setCells b o vs).output = w.output
 | [], o, w => ⟨rfl, rfl, rfl⟩
 | v :: r, o, w => by rw [World.setCells]; exact Z9a b r (o + 1) _
theorem Zou {rows : List (List AV)} {sz : Nat} (h : ∀ c ∈ rows, c.length = sz) : ∀ (i : Nat), i ≤ rows.length → (rows.take i).flatten = rows.flatten.take (i * sz) ∧ (rows.drop i).flatten = rows.flatten.drop (i * sz) := by
 induction rows with
 | nil => intro i hi; simp
 | cons c rows ih =>
  intro i hi
  cases i with
  | zero => simp
  | succ i =>
   have hc := h c (List.mem_cons_self ..)
   obtain ⟨e1, e2⟩ := ih (fun d hd => h d (List.mem_cons_of_mem _ hd)) i (by simpa using hi)
   rw [List.take_succ_cons, List.drop_succ_cons, List.flatten_cons, List.flatten_cons, e1, e2, Nat.add_mul, Nat.one_mul, show i * sz + sz = c.length + i * sz by omega, List.take_length_add_append, List.drop_length_add_append]
   exact ⟨rfl, rfl⟩
structure Roads (P : Program) (f : Nat) (e : TypeId) (zc : Array Value) : Prop where
 shift : ∀ (b n c i vb vc : Nat) (cs vs : List Value) (w : World) (hi : i < n) (hroom : n + 1 ≤ c) (hc63 : c ≤ 9223372036854775807) (hvb : vb ≠ b)
  (hcl : cs.length = n * 2) (hvl : vs.length = 2)
  (hcs : ∀ j v, cs[j]? = some v → w.cell? ⟨b, j, none⟩ = some v) (hsp : ∀ j, j < (n + 1) * 2 → (w.cell? ⟨b, j, none⟩).isSome = true) (hfz : ∀ j, j < (n + 1) * 2 → w.frozen? ⟨b, j, none⟩ = false)
  (hvs : ∀ j v, vs[j]? = some v → w.cell? ⟨vb, j, none⟩ = some v) (h1c : ∀ v ∈ cs, v.oneCell' = true) (h1v : ∀ v ∈ vs, v.oneCell' = true)
  (tA tB : TypeId) (kA kB : Nat) (hsa : w.shape? vb = some (tA, kA)) (hsb : w.shape? b = some (tB, kB)) (hkB : kB ≠ 0) (hfa : w.frozen? ⟨vb, 0, none⟩ = false) (hfe : w.frozen? ⟨vb, kA, none⟩ = false),
  Calls P f #[.slice (some ⟨b, 0, none⟩) n c, .int .i64 i, .slice (some ⟨vb, 0, none⟩) 1 vc] w fun e w' =>
   e = .returned (.slice (some ⟨b, 0, none⟩) (n + 1) c) ∧ w' = (w.drew.setCells b ((i + 1) * 2) (cs.drop (i * 2))).setCells b (i * 2) vs
 grow : ∀ (b n c i vb vc : Nat) (cs vs : List Value) (w : World) (hi : i < n) (hnc : n ≤ c) (hroom : c < n + 1) (hbig : (n + 1) * 32 ≤ 140737488355328)
  (hcl : cs.length = n * 2) (hvl : vs.length = 2)
  (hcs : ∀ j v, cs[j]? = some v → w.cell? ⟨b, j, none⟩ = some v)
  (hvs : ∀ j v, vs[j]? = some v → w.cell? ⟨vb, j, none⟩ = some v) (h1c : ∀ v ∈ cs, v.oneCell' = true) (h1v : ∀ v ∈ vs, v.oneCell' = true),
  Calls P f #[.slice (some ⟨b, 0, none⟩) n c, .int .i64 i, .slice (some ⟨vb, 0, none⟩) 1 vc] w fun r w' =>
   r = .returned (.slice (some ⟨w.heap.size, 0, none⟩) (n + 1) (grownCap w (n + 1) c e)) ∧
   w' = (((w.alloc (.cells ((cs.take (i * 2)).toArray ++ Builtin.zeroCells zc (n + 1 - i) ++ Builtin.zeroCells zc (grownCap w (n + 1) c e - (n + 1))) e)).drew.setCells w.heap.size (i * 2) vs).drew).setCells w.heap.size ((i + 1) * 2) (cs.drop (i * 2))
 eroom : ∀ (b n c vb vc : Nat) (vs : List Value) (w : World) (hroom : n + 1 ≤ c) (hc63 : c ≤ 9223372036854775807)
  (hvl : vs.length = 2) (hsp : ∀ j, j < 2 → (w.cell? ⟨b, n * 2 + j, none⟩).isSome = true) (hfz : ∀ j, j < 2 → w.frozen? ⟨b, n * 2 + j, none⟩ = false)
  (hvs : ∀ j v, vs[j]? = some v → w.cell? ⟨vb, j, none⟩ = some v) (h1v : ∀ v ∈ vs, v.oneCell' = true),
  Calls P f #[.slice (some ⟨b, 0, none⟩) n c, .int .i64 n, .slice (some ⟨vb, 0, none⟩) 1 vc] w fun e w' =>
   e = .returned (.slice (some ⟨b, 0, none⟩) (n + 1) c) ∧ w' = w.setCells b (n * 2) vs
 egrow : ∀ (base : Option Addr) (n c vb vc : Nat) (cs vs : List Value) (w : World) (hnc : n ≤ c) (hroom : c < n + 1) (hbig : (n + 1) * 32 ≤ 140737488355328)
  (hcl : cs.length = n * 2) (hvl : vs.length = 2) (hnil : base = none → n = 0)
  (hcs : ∀ a, base = some a → ∀ j v, cs[j]? = some v → w.cell? (a.add j) = some v)
  (hvs : ∀ j v, vs[j]? = some v → w.cell? ⟨vb, j, none⟩ = some v) (h1v : ∀ v ∈ vs, v.oneCell' = true),
  Calls P f #[.slice base n c, .int .i64 n, .slice (some ⟨vb, 0, none⟩) 1 vc] w fun r w' =>
   r = .returned (.slice (some ⟨w.heap.size, 0, none⟩) (n + 1) (grownCap w (n + 1) c e)) ∧
   w' = w.drew.alloc (.cells ((cs ++ vs).toArray ++ Builtin.zeroCells zc (grownCap w (n + 1) c e - (n + 1))) e)
theorem Zju {Z : Nat → Prop} {b : Nat} (hb : Z b) (vs : List Value) (o : Nat) (w : World) : Fr Z w (w.setCells b o vs) :=
 ⟨(Z9a b vs o w).1, (Z9a b vs o w).2.1, (Z9a b vs o w).2.2, by rw [Zfe]; exact Nat.le_refl _, fun c _ hc => Ziw (fun h => hc (by rw [h]; exact hb)) vs o w⟩
theorem Z10x {Z : Nat → Prop} (w : World) : Fr Z w w.drew := ⟨rfl, rfl, rfl, Nat.le_refl _, fun _ _ _ => rfl⟩
theorem Zsh {Z : Nat → Prop} {w w1 w2 : World} (h : Fr Z w w1) (g : Fr (fun b => Z b ∨ w.heap.size ≤ b) w1 w2) : Fr Z w w2 :=
 ⟨g.os.trans h.os, g.tape.trans h.tape, g.output.trans h.output, Nat.le_trans h.size g.size, fun b hb hz => (g.block b (Nat.lt_of_lt_of_le hb h.size) (fun q => q.elim hz (fun q => by omega))).trans (h.block b hb hz)⟩
theorem Zxf {α : Type} {l a b : List α} {n : Nat} (h : l = a ++ b) (hn : a.length = n) : l.take n = a := by rw [h]; exact List.take_left' hn
end Go.Bv

namespace Go.Bv
open Go.RowKit
def Z10r (p : Nat → Bool) (k : Nat) (us : List Value) : Nat → List Value
 | 0 => []
 | j + 1 => Z10r p k us j ++ (if p j = true then [] else (us.drop (j * k)).take k)
def Z12a (p : Nat → Bool) : Nat → Nat
 | 0 => 0
 | j + 1 => Z12a p j + (if p j = true then 0 else 1)
structure DfRoads (P : Program) (f k : Nat) (e : TypeId) : Prop where
 go : ∀ (b n c g : Nat) (lb : Array Value) (us rest : List Value) (p : Nat → Bool) (w : World),
  w.heap[b]? = some (.cells (us ++ rest).toArray e (0, 0)) → us.length = n * k → n ≤ c → c ≤ maxLen → (us ++ rest).length = c * k → (∀ v ∈ us, v.oneCell' = true) → (∀ args w, (callFunc g args).run P w = .ok (.enter g args) w) →
  (∀ (W : World) (j : Nat), j < n → Fr (fun x => x = b) w W → Calls P g (#[.agg ((us.drop (j * k)).take k).toArray] ++ lb) W fun e w' => e = .returned (.bool (p j)) ∧ Fr (fun _ => False) W w') →
  Calls P f #[.slice (some ⟨b, 0, none⟩) n c, .func (.func g) #[] lb] w fun e' w' => e' = .returned (.slice (some ⟨b, 0, none⟩) (Z12a p n) c) ∧ Fr (fun x => x = b) w w' ∧ ∃ rest', w'.heap[b]? = some (.cells (Z10r p k us n ++ rest').toArray e (0, 0)) ∧ (Z10r p k us n ++ rest').length = c * k
 nil : ∀ (g : Nat) (lb : Array Value) (w : World), Calls P f #[.slice none 0 0, .func (.func g) #[] lb] w fun e w' => e = .returned (.slice none 0 0) ∧ Fr (fun _ => False) w w'
theorem Fr.wide {Z Z' : Nat → Prop} {w w' : World} (h : Fr Z w w') (hz : ∀ b, b < w.heap.size → Z b → Z' b) : Fr Z' w w' :=
 ⟨h.os, h.tape, h.output, h.size, fun b hb hn => h.block b hb (fun q => hn (hz b hb q))⟩
mutual
theorem DV.one {P : Program} {w : World} : ∀ (v : AV) (u : Value) (F : List Nat), DV P w v u F → u.oneCell' = true
 | .int _ _, _, _, ⟨h, _⟩ => by rw [h]; rfl
 | .bool _, _, _, ⟨h, _⟩ => by rw [h]; rfl
 | .str _, _, _, ⟨h, _⟩ => by rw [h]; rfl
 | .sl xs, u, F, ⟨e, sz, us, F', h1, h2, h3, h4⟩ => by
  rcases h2.2 with ⟨rfl, _⟩ | ⟨g, cap, cur, rfl, _⟩ <;> rfl
 | .undef, _, _, h => h.elim
 | .agg _, _, _, h => h.elim
 | .tup _, _, _, h => h.elim
 | .vptr _, _, _, h => h.elim
 | .func _ _, _, _, h => h.elim
 | .mp _ _, _, _, h => h.elim
 | .slx, _, _, h => h.elim
 | .raw _, _, _, h => h.elim
 | .nil _, _, _, h => h.elim
theorem DVL.one {P : Program} {w : World} : ∀ (cs : List AV) (us : List Value) (F : List Nat), DVL P w cs us F → ∀ v ∈ us, v.oneCell' = true
 | [], _, _, ⟨e, _⟩, v, hv => by rw [e] at hv; cases hv
 | c :: cs, us, F, ⟨u, r, F1, F2, h1, h2, h3, h4⟩, v, hv => by
  rw [h1] at hv
  rcases List.mem_cons.1 hv with rfl | hv
  ·exact DV.one c _ F1 h3
  ·exact DVL.one cs r F2 h4 v hv
end
end Go.Bv

namespace Go.Bv
open Go.RowKit
structure UniRoad (P : Program) (f g : Nat) (tT tU : TypeId) (n : Nat) : Prop where
 go : ∀ (w : World) (a : Option Addr) (len cap : Nat) (xs ys : Array Value) (Q : Ending → World → Prop), xs.size = n → ys.size = n → (∀ v ∈ xs.toList, v.oneCell' = true) → (∀ v ∈ ys.toList, v.oneCell' = true) →
  Calls P g #[.pointer (some ⟨w.heap.size + 1 + 1, 0, none⟩), .agg xs, .agg ys] (((w.alloc (.cells xs tT)).alloc (.cells ys tT)).alloc (.cells #[.slice a len cap, .int .i64 0] tU)) (fun e w' => (∃ q, e = .returned (.bool q)) ∧ Q e w') →
  Calls P f #[.slice a len cap, .agg xs, .agg ys] w Q
end Go.Bv

namespace Go.Bv
open Go.RowKit
inductive RF where
 | raw (t d j : Nat)
 | al (t d j : Nat)
def rfL (L : Look) : RF → Option (List Upd × List Prop)
 | .raw t d j => match L.t t, L.b d with
  | some (.v .slx, [(0, .al p [])]), some (.cells cs own) => match OP.same p (.b d j), cs[j]?, lkO own j with
   | true, some (.raw hv), some (.ex _ _ _) => some ([.t t (.v (.raw hv), [])], [])
   | _, _, _ => none
  | _, _ => none
 | .al t d j => match L.t t, L.b d with
  | some (.v (.raw hw), []), some (.cells cs own) => match cs[j]?, lkO own j with
   | some (.raw hv), some (.ex _ _ _) => some ([.t t (.v .slx, [(0, .al (.b d j) [])])], [hw = hv])
   | _, _ => none
  | _, _ => none
theorem Zrv {X : Gh} {w : World} : ∀ {cs : List AV} {us : List Value} {j : Nat} {c : AV}, RelL X w cs us → cs[j]? = some c → ∃ u, us[j]? = some u ∧ Rel X w c u
 | [], _, _, _, _, h => by cases h
 | c :: cs, us, 0, d, ⟨u, r, e, h1, h2⟩, h => by
  cases h
  subst e
  exact ⟨u, rfl, h1⟩
 | c :: cs, us, j + 1, d, ⟨u, r, e, h1, h2⟩, h => by
  subst e
  exact Zrv (j := j) h2 h
theorem Inv.setTmp {E : Env} {L : Look} {a : Act} {w : World} {G : Gho} (hI : Inv E L a w G) {t : Nat} {e : SV × OwnL} (hlt : t < E.n) (h1 : RelS G w e.1 (a.tmps.getD t undef))
  (h2 : ∀ j oe, (j, oe) ∈ e.2 → ∃ u, (Value.flat (a.tmps.getD t undef))[j]? = some u ∧ Own E.P G w (.t t j) oe u) : Inv E (L.upds [.t t e]) a w G := by
 refine { hI with tm := fun s sv own h => ?_, bo := hI.bo, gr := hI.gr }
 have h : (if s = t then some e else L.t s) = some (sv, own) := h
 by_cases hs : s = t
 ·rw [if_pos hs] at h
  cases h
  subst hs
  exact ⟨hlt, h1, h2⟩
 ·rw [if_neg hs] at h
  exact hI.tm s sv own h
theorem Zwu {E : Env} {L : Look} {a : Act} {w : World} {G : Gho} (hI : Inv E L a w G) {d j : Nat} {cs : List AV} {own : OwnL} {hv : Value} {e : TypeId} {dp : Bool} {xs : List (List AV)}
  (hb : L.b d = some (.cells cs own)) (hc : cs[j]? = some (.raw hv)) (ho : lkO own j = some (.ex e dp xs)) : G.pv (.b d j) = hv ∧ ∃ A l k, hv = .slice A l k := by
 obtain ⟨us, e', _, hr, hw⟩ := (hI.bo d _ hb).2.2
 obtain ⟨u, hu, h1, h2⟩ := Zrv hr hc
 obtain ⟨u', hu', h3, _⟩ := hw j _ (Z3x ho)
 rw [Array.getElem?_toList, hu'] at hu
 cases hu
 subst h1
 exact ⟨h3, h2⟩
theorem Zuu {E : Env} {L : Look} {a : Act} {w : World} {f : RF} {ups : List Upd} {obs : List Prop} (hI : SR E L a w) (h : rfL L f = some (ups, obs)) (hob : ∀ p ∈ obs, p) : SR E (L.upds ups) a w := by
 obtain ⟨G, hI⟩ := hI
 cases f with
 | raw t d j =>
  simp only [rfL] at h
  split at h
  ·rename_i p cs own ht hb
   split at h
   ·rename_i hv e dp xs hp hc ho
    cases h
    obtain ⟨h1, h2⟩ := Zwu hI hb hc ho
    obtain ⟨hlt, h3, h4⟩ := hI.tm _ _ _ ht
    obtain ⟨u, hu, h5, h6⟩ := h4 0 _ (List.mem_singleton.2 rfl)
    have hp := OP.same_iff.1 hp
    subst hp
    have h5 : u = G.pv (.b d j) := h5
    obtain ⟨A, l, k, h3⟩ : ∃ A l k, a.tmps.getD t undef = .slice A l k := h3
    have : u = a.tmps.getD t undef := by
     rw [h3] at hu ⊢
     simpa [Value.flat, Value.cells] using hu.symm
    refine ⟨G, hI.setTmp hlt ⟨?_, ⟨A, l, k, h3⟩⟩ (fun j oe hj => by cases hj)⟩
    rw [← this, h5, h1]
   ·cases h
  ·cases h
 | al t d j =>
  simp only [rfL] at h
  split at h
  ·rename_i hw cs own ht hb
   split at h
   ·rename_i hv e dp xs hc ho
    cases h
    obtain ⟨h1, h2⟩ := Zwu hI hb hc ho
    obtain ⟨hlt, h3, h4⟩ := hI.tm _ _ _ ht
    obtain ⟨h3, A, l, k, h5⟩ : a.tmps.getD t undef = hw ∧ ∃ A l k, a.tmps.getD t undef = .slice A l k := h3
    have hh : hw = hv := hob _ (List.mem_singleton.2 rfl)
    refine ⟨G, hI.setTmp hlt ⟨A, l, k, h5⟩ (fun j' oe hj => ?_)⟩
    obtain ⟨rfl, rfl⟩ := Prod.mk.inj (List.mem_singleton.1 hj)
    refine ⟨a.tmps.getD t undef, ?_, ?_, A, l, k, h5⟩
    ·rw [h5]; simp [Value.flat, Value.cells]
    ·show a.tmps.getD t undef = G.pv (.b d j)
     rw [h3, hh, h1]
   ·cases h
  ·cases h
def rfs (st : St) : List RF → Option (St × List Prop)
 | [] => some (st, [])
 | f :: fs => match rfL st.look f with
  | some (us, ob) => match rfs (st.upds us) fs with
   | some (s, ob2) => some (s, ob ++ ob2)
   | none => none
  | none => none
theorem Zj0 {E : Env} {a : Act} {w : World} : ∀ {fs : List RF} {st st' : St} {obs : List Prop}, SR E st.look a w → rfs st fs = some (st', obs) → (∀ p ∈ obs, p) → SR E st'.look a w
 | [], st, st', obs, hI, h, _ => by cases h; exact hI
 | f :: fs, st, st', obs, hI, h, hob => by
  simp only [rfs] at h
  split at h
  ·rename_i us ob hu
   split at h
   ·rename_i s ob2 h2
    cases h
    exact Zj0 (by rw [St.look_upds]; exact Zuu hI hu (fun p hp => hob p (List.mem_append_left _ hp))) h2 (fun p hp => hob p (List.mem_append_right _ hp))
   ·cases h
  ·cases h
def Z121 (P : Program) (n : Nat) (ops : List Oper) (pre post : List RF) (st : St) (o : Oper) (h : Hint) : Option (St × List Prop) :=
 match rfs st pre with
 | some (s1, ob1) => match Zx5 P n ops s1 o h with
  | some (s2, ob2) => match rfs s2 post with
   | some (s3, ob3) => some (s3, ob1 ++ ob2 ++ ob3)
   | none => none
  | none => none
 | none => none
def Z13b (A B C : List Nat) (s : St) : Option St :=
 s.keep (A.filter fun k => (lk s.t k).isSome) (B.filter fun k => (lk s.b k).isSome) (C.filter fun k => (lk s.g k).isSome)
def Z8a (n c : Nat) : Array Bool := ((List.range n).map fun i => c.testBit i).toArray
section
variable (P : Program) (n : Nat) (ops : Array Oper) (hs : List Hint) (pre post : List (List RF)) (A B C : List Nat)
def Zy3 (st : St) (i : Nat) : Option (St × List Prop) :=
 match ops[i]? with
 | some o => match Z121 P n ops.toList (pre.getD i []) (post.getD i []) st o (hs.getD i {}) with
  | some (s, ob) => match Z13b A B C s with
   | some s' => some (s', ob)
   | none => none
  | none => none
 | none => none
def Z12s (c : Nat) : List Nat → Option St → Option St
 | [], s => s
 | i :: is, s => Z12s c is (match c.testBit i with | true => (s.bind fun st => (Zy3 P n ops hs pre post A B C st i).map Prod.fst) | false => s)
def Zhr (st : St) (c : Nat) : St := (Z12s P n ops hs pre post A B C c (List.range ops.size) (some st)).getD st
def Ztc (st : St) (OO : List (List Prop)) (c : Nat) : List (Option (St × List Prop) × Option (St × List Prop)) :=
 (Region.ready .any ops (Z8a ops.size c)).map fun i => (Zy3 P n ops hs pre post A B C (Zhr P n ops hs pre post A B C st c) i, some (Zhr P n ops hs pre post A B C st (c ||| 2 ^ i), OO.getD i []))
def Ztb (st : St) (OO : List (List Prop)) : List Nat → List (Option (St × List Prop) × Option (St × List Prop))
 | [] => []
 | c :: cs => Ztc P n ops hs pre post A B C st OO c ++ Ztb st OO cs
end
def Zk8 (ops : Array Oper) (cs : List Nat) : List Nat → Bool
 | [] => true
 | c :: l => ((Region.ready .any ops (Z8a ops.size c)).all fun i => memN (c ||| 2 ^ i) cs) && (match Region.ready .any ops (Z8a ops.size c) with | [] => Nat.beq c (2 ^ ops.size - 1) | _ => true) && Zk8 ops cs l
theorem Zbw (n c : Nat) : (Z8a n c).size = n := by simp [Z8a]
theorem Zpp {n c i : Nat} (h : i < n) : (Z8a n c).setIfInBounds i true = Z8a n (c ||| 2 ^ i) := by
 apply Array.ext
 ·simp [Z8a]
 ·intro j h1 h2
  have hj : j < n := by simpa [Z8a] using h2
  rw [Array.getElem_setIfInBounds (by simpa [Z8a] using hj)]
  ·simp only [Z8a, List.getElem_toArray, List.getElem_map, List.getElem_range, Nat.testBit_or, Nat.testBit_two_pow]
   by_cases hij : i = j
   ·subst hij; simp
   ·simp [hij]
theorem Z13k (n : Nat) : Array.replicate n false = Z8a n 0 := by
 apply Array.ext
 ·simp [Z8a]
 ·intro j h1 h2
  simp [Z8a]
theorem Zk7 {ops : Array Oper} {cs : List Nat} : ∀ {l : List Nat}, Zk8 ops cs l = true → ∀ c ∈ l, (∀ i ∈ Region.ready .any ops (Z8a ops.size c), (c ||| 2 ^ i) ∈ cs) ∧ (Region.ready .any ops (Z8a ops.size c) = [] → c = 2 ^ ops.size - 1)
 | [], _, c, hc => by cases hc
 | x :: l, h, c, hc => by
  simp only [Zk8, Bool.and_eq_true] at h
  rcases List.mem_cons.1 hc with rfl | hc
  ·refine ⟨fun i hi => Zfy.1 (List.all_eq_true.1 h.1.1 i hi), fun hr => ?_⟩
   have := h.1.2
   rw [hr] at this
   exact Nat.eq_of_beq_eq_true this
  ·exact Zk7 h.2 c hc
section
variable {En : Env} {Q : Exit → Act → World → Prop} {ops : Array Oper} {hs : List Hint} {pre post : List (List RF)} {A B C : List Nat}
theorem Zoh {P : Program} {n : Nat} {st : St} {OO : List (List Prop)} : ∀ {l : List Nat}, (Ztb P n ops hs pre post A B C st OO l).map Prod.fst = (Ztb P n ops hs pre post A B C st OO l).map Prod.snd →
  ∀ c ∈ l, (Ztc P n ops hs pre post A B C st OO c).map Prod.fst = (Ztc P n ops hs pre post A B C st OO c).map Prod.snd
 | [], _, c, hc => by cases hc
 | x :: l, h, c, hc => by
  simp only [Ztb, List.map_append] at h
  have h := List.append_inj h (by simp)
  rcases List.mem_cons.1 hc with rfl | hc
  ·exact h.1
  ·exact Zoh h.2 c hc
theorem Zlq {st st' : St} {OO : List (List Prop)} {cs : List Nat} (hob : ∀ l ∈ OO, ∀ p ∈ l, p) (hQ : ∀ a w, SR En st'.look a w → Q .normal a w)
  (hcl : Zk8 ops cs cs = true) (hm : ∀ c ∈ cs, (Ztc En.P En.n ops hs pre post A B C st OO c).map Prod.fst = (Ztc En.P En.n ops hs pre post A B C st OO c).map Prod.snd)
  {fs : List Fix} {ts bs gs : List Nat} (hf : (Zi3 (Zhr En.P En.n ops hs pre post A B C st (2 ^ ops.size - 1)) fs).bind (fun s => s.keep ts bs gs) = some st') :
  ∀ (fuel : Nat) (c : Nat) (a : Act) (w : World), c ∈ cs → (Z8a ops.size c).toList.count false ≤ fuel → SR En (Zhr En.P En.n ops hs pre post A B C st c).look a w → wpAny En.P .any ops Q fuel (Z8a ops.size c) a w
 | fuel, c, a, w, hc, hn, hI => by
  obtain ⟨hcl1, hcl2⟩ := Zk7 hcl c hc
  have hdone : Region.ready .any ops (Z8a ops.size c) = [] → Q .normal a w := by
   intro hr
   have := hcl2 hr
   subst this
   rw [Option.bind_eq_some_iff] at hf
   obtain ⟨s1, h1, h2⟩ := hf
   exact hQ a w ((Z88 hI h1).keep h2)
  have hst : ∀ i ∈ Region.ready .any ops (Z8a ops.size c), fuel ≠ 0 := by
   intro i hi h0
   obtain ⟨hilt, hun, _⟩ := Z9v.1 hi
   subst h0
   have h0 : (Z8a ops.size c).toList.count false = 0 := Nat.le_zero.1 hn
   rw [List.count_eq_zero] at h0
   apply h0
   rw [Array.mem_toList_iff]
   rw [Array.getD_eq_getD_getElem?, Array.getElem?_eq_getElem (by rw [Zbw]; exact hilt)] at hun
   have hun : (Z8a ops.size c)[i]'(by rw [Zbw]; exact hilt) = false := hun
   rw [← hun]
   exact Array.getElem_mem _
  cases fuel with
  | zero =>
   cases hr : Region.ready .any ops (Z8a ops.size c) with
   | nil => exact ⟨hr, hdone hr⟩
   | cons i is => exact (hst i (by rw [hr]; exact List.mem_cons_self ..) rfl).elim
  | succ fuel =>
   refine ⟨hdone, fun i hi => ?_⟩
   obtain ⟨hilt, hun, o, ho, _⟩ := Z9v.1 hi
   have ho' : ops[i]? = some o := by simpa using ho
   have hE := hm c hc
   rw [Ztc, List.map_map, List.map_map] at hE
   have hE : Zy3 En.P En.n ops hs pre post A B C (Zhr En.P En.n ops hs pre post A B C st c) i = some (Zhr En.P En.n ops hs pre post A B C st (c ||| 2 ^ i), OO.getD i []) := List.map_inj_left.1 hE i hi
   have hobs : ∀ p ∈ OO.getD i [], p := by
    intro p hp
    rw [List.getD_eq_getElem?_getD] at hp
    cases hg : OO[i]? with
    | none => rw [hg] at hp; cases hp
    | some l => rw [hg] at hp; exact hob l (List.mem_of_getElem? hg) p hp
   have hcnt : (Z8a ops.size (c ||| 2 ^ i)).toList.count false ≤ fuel := by
    rw [← Zpp hilt, Array.toList_setIfInBounds]
    have hlt2 : i < (Z8a ops.size c).toList.length := by simpa [Zbw] using hilt
    rw [List.count_set hlt2]
    have : (Z8a ops.size c).toList[i] = false := by
     rw [Array.getD_eq_getD_getElem?, Array.getElem?_eq_getElem (by rw [Zbw]; exact hilt)] at hun
     simpa using hun
    rw [this]
    show List.count false (Z8a ops.size c).toList - 1 + 0 ≤ fuel
    omega
   unfold Zy3 at hE
   rw [ho'] at hE
   simp only at hE
   split at hE
   ·rename_i s ob hst1
    split at hE
    ·rename_i s' hk
     have hE := oInj hE
     have e1 := congrArg Prod.fst hE
     have e2 := congrArg Prod.snd hE
     simp only at e1 e2
     rw [← e2] at hobs
     unfold Z121 at hst1
     split at hst1
     ·rename_i s1 ob1 h1
      split at hst1
      ·rename_i s2 ob2 h2
       split at hst1
       ·rename_i s3 ob3 h3
        cases hst1
        have hI1 := Zj0 hI h1 (fun p hp => hobs p (by simp [hp]))
        unfold wpOp
        rw [ho']
        simp only
        refine Zf7 hI1 h2 (fun p hp => hobs p (by simp [hp])) (fun a' w' hI' => ?_)
        rw [Zpp hilt]
        refine Zlq hob hQ hcl hm hf fuel _ a' w' (hcl1 i hi) hcnt ?_
        rw [← e1]
        exact (Zj0 hI' h3 (fun p hp => hobs p (by simp [hp]))).keep hk
       ·cases hst1
      ·cases hst1
     ·cases hst1
    ·cases hE
   ·cases hE
end
theorem Wc.meet {En : Env} (hm : En.P.follows .mixedOrders = true) {st : St} {K : AE → St → Prop} {id : Nat} {ops : Array Oper} (hs : List Hint) (pre post : List (List RF)) (A B C : List Nat) (fs : List Fix) (ts bs gs : List Nat) (st' : St) (OO : List (List Prop)) (cs : List Nat)
  (h0 : memN 0 cs = true) (hcl : Zk8 ops cs cs = true)
  (h1 : (Ztb En.P En.n ops hs pre post A B C st OO cs).map Prod.fst = (Ztb En.P En.n ops hs pre post A B C st OO cs).map Prod.snd)
  (h2 : Zhr En.P En.n ops hs pre post A B C st 0 = st)
  (hf : (Zi3 (Zhr En.P En.n ops hs pre post A B C st (2 ^ ops.size - 1)) fs).bind (fun s => s.keep ts bs gs) = some st') (hob : Zkv OO) (hK : K .normal st') : Wc En (.region id ops true) st K := by
 intro a w hI Q hQ
 refine wp_region_any hm ?_
 obtain ⟨G, hI⟩ := hI
 rw [Z13k]
 exact Zlq hob.mem (fun a' w' hI' => hQ .normal st' a' w' hK hI') hcl (Zoh h1) hf ops.size 0 a _ (Zfy.1 h0) (by
  refine Nat.le_trans List.count_le_length ?_
  rw [Array.length_toList, Zbw]; exact Nat.le_refl _) (by rw [h2]; exact ⟨G, hI.drawn⟩)
theorem Zxy {X : Gh} {w : World} {v : Value} {cs : List AV} : ∀ {us : List Value}, RelL X w (.raw v :: cs) us → RelL X w (.slx :: cs) us
 | us, ⟨u, r, e, ⟨h1, h2⟩, h3⟩ => ⟨u, r, e, h2, h3⟩
end Go.Bv

namespace Go.Bv
open Go.RowKit
def stX (r : Option (St × List Prop)) : St := match r with | some (s, _) => s | none => ⟨[], [], []⟩
def obX (r : Option (St × List Prop)) : Option (List Prop) := match r with | some (_, o) => some o | none => none
def stY (r : Option St) : St := match r with | some s => s | none => ⟨[], [], []⟩
def okY (r : Option St) : Bool := match r with | some _ => true | none => false
theorem Zyy {r : Option (St × List Prop)} {obs : List Prop} (h : obX r = some obs) : r = some (stX r, obs) := by
 cases r with
 | none => cases h
 | some p => cases p; cases h; rfl
theorem Znw {r : Option St} (h : okY r = true) : r = some (stY r) := by
 cases r with
 | none => cases h
 | some p => rfl
abbrev hC {P : Program} {f : Nat} {args : List AD} {r : AD} {outs : List (Nat × AD)} (_ : FnO P f args r outs) : Hint := { r := some r, outs := outs }
abbrev hK (l : List Nat) : Hint := { tk := l }
abbrev hM (n : Nat) : Hint := { md := n }
theorem oc {α β : Type} {x : Option α} {f : α → Option β} {r : β} {Q : α → Prop} (h : x.bind f = some r) (c : ∀ v, x = some v → Q v) : ∃ v, Q v ∧ f v = some r :=
 let ⟨v, h1, h2⟩ := Z2d h
 ⟨v, c v h1, h2⟩
theorem o1 {a : Prop} (x : a) : AllP [a] := ⟨x, trivial⟩
theorem o2 {a b : Prop} (x : a) (y : b) : AllP [a, b] := ⟨x, y, trivial⟩
theorem o3 {a b c : Prop} (x : a) (y : b) (z : c) : AllP [a, b, c] := ⟨x, y, z, trivial⟩
theorem o4 {a b c d : Prop} (x : a) (y : b) (z : c) (u : d) : AllP [a, b, c, d] := ⟨x, y, z, u, trivial⟩
abbrev hE {p : Prop} {xs : List (List AV)} {j : Nat} {e : List AV} {s : Nat} (_ : p ∧ xs[j]? = some e ∧ e.length = s) : Hint := { v := some (.vptr e) }
abbrev hL {α : Type} (l : List α) : Hint := { v := some (.int .i64 l.length) }
abbrev rT : Hint := { re := some (.bool true) }
abbrev rF : Hint := { re := some (.bool false) }
theorem cb {x y : Bool} (h : x = y) : AV.bool x = AV.bool y := congrArg AV.bool h
theorem lenE {p q : Prop} {e : List AV} {s : Nat} (h : p ∧ q ∧ e.length = s) (n : Nat) (hb : Nat.ble n s = true := by kernel_rfl) : n ≤ e.length := by
 rw [h.2.2]; exact Nat.le_of_ble_eq_true hb
theorem lenD {p q : Prop} {e : List AV} {s : Nat} (h : p ∧ q ∧ e.length = s) (o n : Nat) (hb : Nat.ble (o + n) s = true := by kernel_rfl) : n ≤ (e.drop o).length := by
 have := Nat.le_of_ble_eq_true hb
 rw [List.length_drop, h.2.2]; omega
abbrev hB {xs ys : List (List AV)} (_ : xs = ys) : Hint := { c := some ys }
theorem cR {α : Type} (c : α → List AV) (l : List α) : List.map c l = List.map c l := rfl
theorem oC {p : Prop} {l : List Prop} (h : p) (t : AllP l) : AllP (p :: l) := ⟨h, t⟩
section
variable {α : Type} {c : α → List AV} {xs ys : List α} {s : Nat} {l : List Prop}
theorem oA (e : xs.map c ++ ys.map c = (xs ++ ys).map c) (hf : ∀ x, (c x).all AV.leaf = true) (hl : ∀ x, (c x).length = s) (h : xs.length + ys.length ≤ 1073741824) (t : AllP l) :
  AllP ((xs.map c ++ ys.map c = (xs ++ ys).map c) :: (∀ r ∈ ys.map c, r.all AV.leaf = true) :: ((xs.map c).length + (ys.map c).length ≤ 1073741824 ∧ (∀ r ∈ xs.map c, r.length = s) ∧ ∀ r ∈ ys.map c, r.length = s) :: l) :=
 ⟨e, Zss hf, Zim hl h, t⟩
theorem oAn (e : xs.map c ++ ys.map c = (xs ++ ys).map c) (hl : ∀ x, (c x).length = s) (h : xs.length + ys.length ≤ 1073741824) (t : AllP l) :
  AllP ((xs.map c ++ ys.map c = (xs ++ ys).map c) :: ((xs.map c).length + (ys.map c).length ≤ 1073741824 ∧ (∀ r ∈ xs.map c, r.length = s) ∧ ∀ r ∈ ys.map c, r.length = s) :: l) :=
 ⟨e, Zim hl h, t⟩
theorem oE (e : [] ++ ys.map c = ys.map c) (hf : ∀ x, (c x).all AV.leaf = true) (hl : ∀ x, (c x).length = s) (h : ([] : List α).length + ys.length ≤ 1073741824) (t : AllP l) :
  AllP (([] ++ ys.map c = ys.map c) :: (∀ r ∈ ys.map c, r.all AV.leaf = true) :: ((([] : List α).map c).length + (ys.map c).length ≤ 1073741824 ∧ (∀ r ∈ ([] : List α).map c, r.length = s) ∧ ∀ r ∈ ys.map c, r.length = s) :: l) :=
 ⟨e, Zss hf, Zim hl h, t⟩
theorem oEs (e : [] ++ ys.map c = ys.map c) (hf : ∀ x, (c x).all Zcx = true) (hl : ∀ x, (c x).length = s) (h : ([] : List α).length + ys.length ≤ 1073741824) (t : AllP l) :
  AllP (([] ++ ys.map c = ys.map c) :: (∀ r ∈ ys.map c, r.all Zcx = true) :: ((([] : List α).map c).length + (ys.map c).length ≤ 1073741824 ∧ (∀ r ∈ ([] : List α).map c, r.length = s) ∧ ∀ r ∈ ys.map c, r.length = s) :: l) :=
 ⟨e, Zyq hf, Zim hl h, t⟩
end
section
variable {En : Env} {st : St} {K : AE → St → Prop} {id : Nat} {ops : Array Oper} {y : Code}
theorem Wc.k3 (hs : List Hint) (fs : List Fix) (ts bs gs : List Nat) {obs : List Prop} (hob : AllP obs) (hK : K .normal (stX (aReg En.P En.n ops hs fs st ts bs gs)))
  (h : obX (aReg En.P En.n ops hs fs st ts bs gs) = some obs := by kernel_rfl) : Wc En (.region id ops false) st K :=
 Wc.region hs fs ts bs gs _ obs (Zyy h) hob hK
theorem Wc.k2 (hs : List Hint) (ts bs : List Nat) {obs : List Prop} (hob : AllP obs) (hK : K .normal (stX (aReg En.P En.n ops hs [] st ts bs [])))
  (h : obX (aReg En.P En.n ops hs [] st ts bs []) = some obs := by kernel_rfl) : Wc En (.region id ops false) st K := Wc.k3 hs [] ts bs [] hob hK h
theorem Wc.k1 (hs : List Hint) (ts bs : List Nat) (hK : K .normal (stX (aReg En.P En.n ops hs [] st ts bs [])))
  (h : obX (aReg En.P En.n ops hs [] st ts bs []) = some [] := by kernel_rfl) : Wc En (.region id ops false) st K := Wc.k3 hs [] ts bs [] (obs := []) trivial hK h
theorem Wc.k0 (ts bs : List Nat) (hK : K .normal (stX (aReg En.P En.n ops [] [] st ts bs [])))
  (h : obX (aReg En.P En.n ops [] [] st ts bs []) = some [] := by kernel_rfl) : Wc En (.region id ops false) st K := Wc.k3 [] [] ts bs [] (obs := []) trivial hK h
theorem Wc.s3 (hs : List Hint) (fs : List Fix) (ts bs gs : List Nat) {obs : List Prop} (hob : AllP obs) (hK : Wc En y (stX (aReg En.P En.n ops hs fs st ts bs gs)) K)
  (h : obX (aReg En.P En.n ops hs fs st ts bs gs) = some obs := by kernel_rfl) : Wc En (.seq (.region id ops false) y) st K := Wc.seq (Wc.k3 hs fs ts bs gs hob hK h)
theorem Wc.s2 (hs : List Hint) (ts bs : List Nat) {obs : List Prop} (hob : AllP obs) (hK : Wc En y (stX (aReg En.P En.n ops hs [] st ts bs [])) K)
  (h : obX (aReg En.P En.n ops hs [] st ts bs []) = some obs := by kernel_rfl) : Wc En (.seq (.region id ops false) y) st K := Wc.seq (Wc.k3 hs [] ts bs [] hob hK h)
theorem Wc.s1 (hs : List Hint) (ts bs : List Nat) (hK : Wc En y (stX (aReg En.P En.n ops hs [] st ts bs [])) K)
  (h : obX (aReg En.P En.n ops hs [] st ts bs []) = some [] := by kernel_rfl) : Wc En (.seq (.region id ops false) y) st K := Wc.seq (Wc.k3 hs [] ts bs [] (obs := []) trivial hK h)
theorem Wc.s0 (ts bs : List Nat) (hK : Wc En y (stX (aReg En.P En.n ops [] [] st ts bs [])) K)
  (h : obX (aReg En.P En.n ops [] [] st ts bs []) = some [] := by kernel_rfl) : Wc En (.seq (.region id ops false) y) st K := Wc.seq (Wc.k3 [] [] ts bs [] (obs := []) trivial hK h)
theorem Wc.fk {c : Code} (fs : List Fix) (ts bs gs : List Nat) (hc : Wc En c (stY ((Zi3 st fs).bind fun s => s.keep ts bs gs)) K)
  (h : okY ((Zi3 st fs).bind fun s => s.keep ts bs gs) = true := by kernel_rfl) : Wc En c st K := Wc.fix fs ts bs gs (Znw h) hc
theorem Wc.dk (hm : En.P.follows .mixedOrders = true) (hs : List Hint) (fs : List Fix) (ts bs gs : List Nat) {obs : List Prop} (hob : AllP obs) (hK : K .normal (stX (Zyu Look.none En.P En.n ops hs fs st ts bs gs)))
  (h : obX (Zyu Look.none En.P En.n ops hs fs st ts bs gs) = some obs := by kernel_rfl) (hx : ∀ X, dRun X En.P En.n ops.toList ops.toList hs st = dRun Look.none En.P En.n ops.toList ops.toList hs st := by intro X; kernel_rfl) : Wc En (.region id ops true) st K :=
 Wc.draw hm hs fs ts bs gs _ obs (Zyy h) hx hob hK
theorem Wc.zk {c : Code} (d : Nat) (hc : Wc En c (stY (st.freeze d)) K) (h : okY (st.freeze d) = true := by kernel_rfl) : Wc En c st K := Wc.freeze d _ (Znw h) hc
theorem Wc.lk {c : Code} (d m : Nat) (hc : Wc En c (stY (st.lean d m)) K) (h : okY (st.lean d m) = true := by kernel_rfl) : Wc En c st K := Wc.lean d m _ (Znw h) hc
theorem Wc.ci {α : Type} {c : Operand} {x z : Code} {b : Bool} {p q : Option α} {r : α} (h : (if b = true then p else q) = some r) (ht : b = true → p = some r → Wc En x st K) (hf : b = false → q = some r → Wc En z st K)
  (hc : evV st.look c = some (.bool b) := by kernel_rfl) : Wc En (.cond c x z) st K :=
 Wc.cond b hc (fun e => ht e (by rw [if_pos e] at h; exact h)) (fun e => hf e (by subst e; exact h))
theorem Wc.ks (ts bs : List Nat) (hK : K .normal (stY (st.keep ts bs []))) (h : okY (st.keep ts bs []) = true := by kernel_rfl) : Wc En .skip st K :=
 Wc.keep ts bs [] _ (Znw h) (Wc.skip hK)
theorem Wc.ke {id : Nat} (ts bs : List Nat) (hK : K (.exit id) (stY (st.keep ts bs []))) (h : okY (st.keep ts bs []) = true := by kernel_rfl) : Wc En (.exit id) st K :=
 Wc.keep ts bs [] _ (Znw h) (Wc.exit hK)
end
theorem stB {α : Type} {x y : α} {p : Prop} (hp : p) (h : x = y := by kernel_rfl) : x = y ∧ p := ⟨h, hp⟩
theorem Zxe {P : Program} {f off : Nat} {c0 c1 d0 d1 : AV} {cs cs' : List AV} {own own' : OwnL} {args : List AD} {r : AD}
  (h : ∀ hv : Value, FnO P f (.q off 0 (c0 :: c1 :: .raw hv :: cs) own :: args) r [(0, .q off 0 (d0 :: d1 :: .raw hv :: cs') own')]) : FnO P f (.q off 0 (c0 :: c1 :: .slx :: cs) own :: args) r [(0, .q off 0 (d0 :: d1 :: .slx :: cs') own')] := by
 intro X w us lab hin hX hgt
 obtain ⟨u, rs, rfl, ⟨b, vs, e, k1, k2, k3, k4, k5, k6⟩, h2⟩ := hin
 obtain ⟨w0, r0, e0, hv0, w1, r1, e1, hv1, v2, r2, e2, hv2, hr2⟩ := k5
 refine Calls.mono (h v2 X w (u :: rs) lab ⟨u, rs, rfl, ⟨b, vs, e, k1, k2, k3, k4, ⟨w0, r0, e0, hv0, w1, r1, e1, hv1, v2, r2, e2, ⟨rfl, hv2⟩, hr2⟩, k6⟩, h2⟩ hX hgt) ?_
 rintro ex w' ⟨u', X', lab', g0, g1, g2, g3, g4, g5⟩
 refine ⟨u', X', lab', g0, g1, g2, g3, g4, fun i q hi => ?_⟩
 obtain ⟨rfl, rfl⟩ := Prod.mk.inj (List.mem_singleton.1 hi)
 obtain ⟨v, hv, b', us', e', q1, q2, q3, q4, q5, q6⟩ := g5 0 _ (List.mem_singleton.2 rfl)
 obtain ⟨x0, s0, f0, hx0, x1, s1, f1, hx1, hq⟩ := q5
 exact ⟨v, hv, b', us', e', q1, q2, q3, q4, ⟨x0, s0, f0, hx0, x1, s1, f1, hx1, Zxy hq⟩, q6⟩
end Go.Bv

namespace Go.Bv
open Go.RowKit
def Zxa (P : Program) (f k : Nat) (e : TypeId) : Prop :=
 ∀ (b n c i j : Nat) (us rest : List Value) (w : World),
  w.heap[b]? = some (.cells (us ++ rest).toArray e (0, 0)) → us.length = n * k → n ≤ c → c ≤ maxLen → (us ++ rest).length = c * k → (∀ v ∈ us, v.oneCell' = true) → i < j → j ≤ n →
  Calls P f #[.slice (some ⟨b, 0, none⟩) n c, .int .i64 i, .int .i64 j] w fun e' w' => e' = .returned (.slice (some ⟨b, 0, none⟩) (i + (n - j)) c) ∧ Fr (fun x => x = b) w w' ∧
   ∃ rest', w'.heap[b]? = some (.cells (us.take (i * k) ++ us.drop (j * k) ++ rest').toArray e (0, 0)) ∧ (us.take (i * k) ++ us.drop (j * k) ++ rest').length = c * k
theorem Zyr {rows : List (List AV)} (h : ∀ c ∈ rows, c.all AV.leaf = true) : rows.flatten.all AV.leaf = true := by
 rw [List.all_eq_true]
 intro v hv
 obtain ⟨c, hc, hv⟩ := List.mem_flatten.1 hv
 exact List.all_eq_true.1 (h c hc) v hv
theorem Zyc {P : Program} {f k : Nat} {e : TypeId} (R : Zxa P f k e) (hz : Z4x P e = some k) (he : e ≠ anyT) {rows : List (List AV)} {i j : Nat} (hlf : ∀ c ∈ rows, c.all AV.leaf = true) (hij : i < j) (hj : j ≤ rows.length) :
  FnO P f [.v .slx [(0, .ex e false rows)], .v (.int .i64 i) [], .v (.int .i64 j) []] (.v .slx [(0, .ex e false (rows.take i ++ rows.drop j))]) [] := by
 intro X w us lab hin hX hgt
 obtain ⟨u0, r0, rfl, ⟨h0a, h0b⟩, u1, r1, rfl, ⟨h1a, _⟩, u2, r2, rfl, ⟨h2a, _⟩, h3⟩ := hin
 have h3 : r2 = [] := h3
 subst h3
 obtain ⟨A0, l0, c0, rfl⟩ := h0a
 have h1 : u1 = .int .i64 i := h1a
 have h2 : u2 = .int .i64 j := h2a
 subst h1; subst h2
 obtain ⟨_, q0, F0, e0, R0, L0⟩ := h0b 0 _ (List.mem_singleton.2 rfl)
 have e0 : q0 = .slice A0 l0 c0 := (oInj e0).symm
 subst e0
 obtain ⟨t0, z0, us0, G0, d0, k0, o0, n0, m0, p0, nd, x0⟩ := R0
 obtain ⟨g0, m0⟩ : G0 = [] ∧ RelL X w rows.flatten us0 := m0
 obtain rfl : t0 = e := d0.resolve_right he
 obtain rfl : z0 = k := oInj (k0.symm.trans hz)
 subst g0; subst p0
 rw [List.append_nil] at x0 L0
 have ul0 : us0.length = rows.length * z0 := o0.1
 rcases o0.2 with ⟨_, hbad⟩ | ⟨b, c0', cur, hv, _, hgo, hgn, hgm, hgs, hgt'⟩
 ·have : rows.length = 0 := hbad
  omega
 cases hv
 have hgl : lab b = some (0, 1) := L0 b (Z4f.2 rfl)
 have hgx : X b = some 0 := x0 b (Z4f.2 rfl)
 obtain ⟨rest, hrest⟩ : ∃ rest, cur.toList = us0 ++ rest := ⟨cur.toList.drop (rows.length * z0), by rw [← hgt', List.take_append_drop]⟩
 have hcur : cur = (us0 ++ rest).toArray := by rw [← hrest]
 subst hcur
 have h1 : ∀ v ∈ us0, v.oneCell' = true := Z9i m0 (Zyr hlf)
 refine Calls.mono (R b rows.length c0 i j us0 rest w hgo ul0 hgn hgm (by simpa using hgs) h1 hij hj) ?_
 rintro ex w' ⟨rfl, hf, rest', a1, a2⟩
 have hsame : ∀ c, c < w.heap.size → c ≠ b → w'.heap[c]? = w.heap[c]? := fun c hc hn => hf.block c hc hn
 have hext : Ext X w X w' := ⟨fun c o u hc hk => by
   have hn : c ≠ b := fun h => by
    rw [h] at hk
    unfold okc at hk
    rw [hgx] at hk
    exact absurd hk (Nat.not_lt_zero _)
   have hb : c < w.heap.size := by
    rcases Nat.lt_or_ge c w.heap.size with h | h
    ·exact h
    ·rw [World.cell?, Array.getElem?_eq_none h] at hc; cases hc
   exact ⟨by rw [World.cell?, hsame c hb hn]; exact hc, hk⟩, fun r es q hr hk => by
   have hn : r ≠ b := fun h => by rw [h, hgx] at hk; cases hk
   exact ⟨(hsame r (Array.getElem?_eq_some_iff.1 hr).1 hn).trans hr, hk⟩⟩
 have hi : i ≤ rows.length := by omega
 have hll : (rows.take i ++ rows.drop j).length = i + (rows.length - j) := by rw [List.length_append, List.length_take, List.length_drop]; omega
 have hrel : RelL X w' (rows.take i ++ rows.drop j).flatten (us0.take (i * z0) ++ us0.drop (j * z0)) := by
  rw [List.flatten_append, (Zou n0 i hi).1, (Zou n0 j hj).2]
  exact RelL.mono hext _ _ ((RelL.take _ m0).append (RelL.drop _ m0))
 have hik : i * z0 ≤ rows.length * z0 := Nat.mul_le_mul_right _ hi
 have hul : (us0.take (i * z0) ++ us0.drop (j * z0)).length = (i + (rows.length - j)) * z0 := by
  rw [List.length_append, List.length_take, List.length_drop, ul0, Nat.min_eq_left hik, Nat.add_mul, Nat.sub_mul]
 refine ⟨_, X, lab, rfl, hf.wide (fun c _ hc => by rw [hc]; exact ⟨_, hgl⟩), fun c _ hc => ⟨rfl, hc⟩, fun c hc => hX c (Nat.le_trans hf.size hc), ⟨⟨_, _, _, rfl⟩, fun o oe ho => ?_⟩, fun _ _ h => by cases h⟩
 obtain ⟨rfl, rfl⟩ := Prod.mk.inj (List.mem_singleton.1 ho)
 refine ⟨rfl, _, [b], rfl, ⟨t0, z0, us0.take (i * z0) ++ us0.drop (j * z0), [], .inl rfl, hz, ⟨by rw [hul, hll], .inr ⟨b, c0, (us0.take (i * z0) ++ us0.drop (j * z0) ++ rest').toArray, by rw [hll], Nat.zero_le _, a1, by rw [hll]; omega, hgm, by simpa using a2, ?_⟩⟩,
  fun c hc => ?_, ⟨rfl, hrel⟩, rfl, by simp, fun c hc => ?_⟩, fun c hc => ?_⟩
 ·rw [hll]
  exact Zxf (b := rest') rfl hul
 ·rcases List.mem_append.1 hc with hc | hc
  ·exact n0 c (List.mem_of_mem_take hc)
  ·exact n0 c (List.mem_of_mem_drop hc)
 ·rw [List.mem_singleton.1 hc]; exact hgx
 ·rw [List.mem_singleton.1 hc]; exact hgl
end Go.Bv

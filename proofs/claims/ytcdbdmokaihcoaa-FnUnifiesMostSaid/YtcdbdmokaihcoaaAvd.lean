/- Values of calls, told abstractly, with what is held: part 4. -/
import Derived.Test.YtcdbdmokaihcoaaAvc
import Derived.Deep.AppendSrc
set_option linter.unusedVariables false
set_option linter.unusedSimpArgs false
namespace Go.Bv
open Go.RowKit
def explL {α : Type} (f : Nat → Option (List α)) : List Nat → Option (List α)
  | [] => some []
  | i :: is => match f i, explL f is with
    | some l, some m => some (l ++ m)
    | _, _ => none
theorem explL_get {α : Type} {f : Nat → Option (List α)} : ∀ {is : List Nat} {L : List α}, explL f is = some L → ∀ i ∈ is, ∃ l, f i = some l ∧ ∀ x ∈ l, x ∈ L
  | [], L, h, i, hi => by cases hi
  | j :: is, L, h, i, hi => by
    rw [explL] at h
    split at h
    · rename_i l m h1 h2
      cases h
      rcases List.mem_cons.1 hi with rfl | hi
      · exact ⟨l, h1, fun x hx => List.mem_append_left _ hx⟩
      · obtain ⟨l', e, h3⟩ := explL_get h2 i hi
        exact ⟨l', e, fun x hx => List.mem_append_right _ (h3 x hx)⟩
    · cases h
theorem explL_all {α : Type} {f : Nat → Option (List α)} : ∀ {is : List Nat} {L : List α}, explL f is = some L → ∀ x ∈ L, ∃ i ∈ is, ∃ l, f i = some l ∧ x ∈ l
  | [], L, h, x, hx => by cases h; cases hx
  | j :: is, L, h, x, hx => by
    rw [explL] at h
    split at h
    · rename_i l m h1 h2
      cases h
      rcases List.mem_append.1 hx with hx | hx
      · exact ⟨j, List.mem_cons_self .., l, h1, hx⟩
      · obtain ⟨i, hi, l', e, h3⟩ := explL_all h2 x hx
        exact ⟨i, List.mem_cons_of_mem _ hi, l', e, h3⟩
    · cases h
def expl (P : Program) (n : Nat) (ops : Array Oper) (hs : List Hint) (fs : List Fix) (ts bs gs : List Nat) : Nat → Array Bool → St → List (List Prop) → Option (List (St × List (List Prop)))
  | 0, _, _, _ => none
  | fuel + 1, listed, st, O =>
    match Region.ready .any ops listed with
    | [] => match (fixes st fs).bind fun s => s.keep ts bs gs with
      | some s' => some [(s', O)]
      | none => none
    | i :: is => explL (fun j => match ops[j]? with
      | some o => match aStep P n ops.toList st o (hs.getD j {}) with
        | some (s, ob) => expl P n ops hs fs ts bs gs fuel (listed.setIfInBounds j true) s (O.set j ob)
        | none => none
      | none => none) (i :: is)
section
variable {En : Env} {Q : Exit → Act → World → Prop} {ops : Array Oper} {hs : List Hint} {fs : List Fix} {ts bs gs : List Nat}
theorem getD_setB {listed : Array Bool} {i j : Nat} {d : Bool} (h : i ≠ j) : (listed.setIfInBounds j true).getD i d = listed.getD i d := by
  simp only [Array.getD_eq_getD_getElem?, Array.getElem?_setIfInBounds]
  rw [if_neg (fun e => h e.symm)]
theorem expl_keeps : ∀ {fuel : Nat} {listed : Array Bool} {st : St} {O : List (List Prop)} {L : List (St × List (List Prop))}, expl En.P En.n ops hs fs ts bs gs fuel listed st O = some L →
    L ≠ [] ∧ ∀ x ∈ L, ∀ i, listed.getD i true = true → x.2[i]? = O[i]?
  | 0, listed, st, O, L, h => by cases h
  | fuel + 1, listed, st, O, L, h => by
    rw [expl] at h
    split at h
    · split at h
      · cases h
        exact ⟨by simp, fun x hx i hi => by rw [List.mem_singleton.1 hx]⟩
      · cases h
    · rename_i i0 is hr
      have hrd : ∀ j ∈ i0 :: is, listed.getD j true = false := fun j hj => by
        rw [← hr] at hj
        exact (ready_iff.1 hj).2.1
      refine ⟨?_, fun x hx i hi => ?_⟩
      · obtain ⟨l, e, hl⟩ := explL_get h i0 (List.mem_cons_self ..)
        split at e
        · split at e
          · obtain ⟨hne, _⟩ := expl_keeps e
            obtain ⟨y, hy⟩ := List.exists_mem_of_ne_nil l hne
            exact List.ne_nil_of_mem (hl y hy)
          · cases e
        · cases e
      · obtain ⟨j, hj, l, e, hxl⟩ := explL_all h x hx
        have hij : i ≠ j := fun e => by rw [e, hrd j hj] at hi; cases hi
        split at e
        · split at e
          · have := (expl_keeps e).2 x hxl i (by rw [getD_setB hij]; exact hi)
            rw [this, List.getElem?_set_ne (fun e => hij e.symm)]
          · cases e
        · cases e
theorem expl_sound {st' : St} {OO : List (List Prop)} (hob : ∀ l ∈ OO, ∀ p ∈ l, p) (hQ : ∀ a w, SR En st'.look a w → Q .normal a w) :
    ∀ (fuel : Nat) (listed : Array Bool) (st : St) (O : List (List Prop)) (L : List (St × List (List Prop))) (a : Act) (w : World), listed.size = ops.size → O.length = ops.size →
      expl En.P En.n ops hs fs ts bs gs (fuel + 1) listed st O = some L → (∀ x ∈ L, x = (st', OO)) → SR En st.look a w → (∀ l ∈ OO, True) → wpAny En.P .any ops Q fuel listed a w
  | fuel, listed, st, O, L, a, w, hsz, hlen, h, hL, hI, _ => by
    have hdone : Region.ready .any ops listed = [] → Q .normal a w := by
      intro hr
      rw [expl, hr] at h
      simp only at h
      split at h
      · rename_i s' hk
        cases h
        have := hL _ (List.mem_singleton.2 rfl)
        cases this
        rw [Option.bind_eq_some_iff] at hk
        obtain ⟨s1, h1, h2⟩ := hk
        exact hQ a w ((fixes_sound hI h1).keep h2)
      · cases h
    cases fuel with
    | zero =>
      refine ⟨?_, ?_⟩
      · rw [expl] at h
        split at h
        · assumption
        · rename_i i0 is hr
          obtain ⟨l, e, hl⟩ := explL_get h i0 (List.mem_cons_self ..)
          split at e
          · split at e
            · cases e
            · cases e
          · cases e
      · refine hdone ?_
        rw [expl] at h
        split at h
        · assumption
        · rename_i i0 is hr
          obtain ⟨l, e, hl⟩ := explL_get h i0 (List.mem_cons_self ..)
          split at e
          · split at e
            · cases e
            · cases e
          · cases e
    | succ fuel =>
      refine ⟨hdone, fun i hi => ?_⟩
      obtain ⟨hilt, hun, o, ho, _⟩ := ready_iff.1 hi
      have ho' : ops[i]? = some o := by simpa using ho
      rw [expl] at h
      split at h
      · rename_i hr
        rw [hr] at hi; cases hi
      · rename_i i0 is hr
        rw [hr] at hi
        obtain ⟨l, e, hl⟩ := explL_get h i hi
        rw [ho'] at e
        simp only at e
        split at e
        · rename_i s ob hst
          obtain ⟨hne, hkp⟩ := expl_keeps e
          obtain ⟨y, hy⟩ := List.exists_mem_of_ne_nil l hne
          have hy' := hL y (hl y hy)
          have hobs : ∀ p ∈ ob, p := by
            have h1 := hkp y hy i (by
              simp only [Array.getD_eq_getD_getElem?, Array.getElem?_setIfInBounds]
              rw [if_pos trivial, if_pos (by omega)]; rfl)
            rw [List.getElem?_set_self (by omega)] at h1
            rw [hy'] at h1
            exact hob ob (List.mem_of_getElem? h1)
          unfold wpOp
          rw [ho']
          simp only
          exact aStep_sound hI hst hobs (fun a' w' hI' => expl_sound hob hQ fuel _ s _ l a' w' (by simp [hsz]) (by simp [hlen]) e (fun x hx => hL x (hl x hx)) hI' (fun _ _ => trivial))
        · cases e
end
def AllPP : List (List Prop) → Prop
  | [] => True
  | l :: ls => AllP l ∧ AllPP ls
theorem AllPP.nil : AllPP [] := trivial
theorem AllPP.cons {l : List Prop} {ls : List (List Prop)} (h : AllP l) (hs : AllPP ls) : AllPP (l :: ls) := ⟨h, hs⟩
theorem AllPP.mem : ∀ {ls : List (List Prop)}, AllPP ls → ∀ l ∈ ls, ∀ p ∈ l, p
  | [], _, l, hl => by cases hl
  | m :: ms, h, l, hl => by
    rcases List.mem_cons.1 hl with rfl | hl
    · exact h.1.mem
    · exact AllPP.mem h.2 l hl
theorem Wc.every {En : Env} (hm : En.P.follows .mixedOrders = true) {st : St} {K : AE → St → Prop} {id : Nat} {ops : Array Oper} (hs : List Hint) (fs : List Fix) (ts bs gs : List Nat) (st' : St) (OO : List (List Prop)) (N : Nat)
    (h : expl En.P En.n ops hs fs ts bs gs (ops.size + 1) (Array.replicate ops.size false) st (List.replicate ops.size []) = some (List.replicate N (st', OO))) (hob : AllPP OO) (hK : K .normal st') : Wc En (.region id ops true) st K := by
  intro a w hI Q hQ
  refine wp_region_any hm ?_
  obtain ⟨G, hI⟩ := hI
  exact expl_sound hob.mem (fun a' w' hI' => hQ .normal st' a' w' hK hI') ops.size _ st _ _ a _ (by simp) (by simp) h (fun x hx => List.eq_of_mem_replicate hx) ⟨G, hI.drawn⟩ (fun _ _ => trivial)
def regIn (id : Nat) : Code → Option (Array Oper)
  | .region i ops _ => match Nat.beq i id with | true => some ops | false => none
  | .seq a b => match regIn id a with | some x => some x | none => regIn id b
  | .cond _ a b => match regIn id a with | some x => some x | none => regIn id b
  | .block _ a => regIn id a
  | .loop a => regIn id a
  | _ => none
def regOps (id : Nat) (f : Func) : Array Oper := match f.body with | some c => (match regIn id c with | some x => x | none => #[]) | none => #[]
def DrawOk (P : Program) (n : Nat) (ops : Array Oper) (hs : List Hint) (fs : List Fix) (st : St) (ts bs gs : List Nat) (st' : St) : Prop :=
  ∃ obs, aDraw Look.none P n ops hs fs st ts bs gs = some (st', obs) ∧ AllP obs ∧ ∀ X, dRun X P n ops.toList ops.toList hs st = dRun Look.none P n ops.toList ops.toList hs st
end Go.Bv


namespace Go.Bv
open Go.RowKit
def updL : List Value → Nat → List Value → List Value
  | l, _, [] => l
  | l, o, v :: r => updL (l.set o v) (o + 1) r
def strs (c : List AV) : Bool := c.all fun v => match v with | .str _ => true | _ => false
def insF {α : Type} (l : List α) (i : Nat) (x : α) : List α := l.take i ++ (x :: l.drop i)
structure Roads (P : Program) (f : Nat) (e : TypeId) (zc : Array Value) : Prop where
  shift : ∀ (b n c i vb vc : Nat) (cs vs : List Value) (w : World) (hi : i < n) (hroom : n + 1 ≤ c) (hc63 : c ≤ 9223372036854775807) (hvb : vb ≠ b)
    (hcl : cs.length = n * 2) (hvl : vs.length = 2)
    (hcs : ∀ j v, cs[j]? = some v → w.cell? ⟨b, j, none⟩ = some v) (hsp : ∀ j, j < (n + 1) * 2 → (w.cell? ⟨b, j, none⟩).isSome = true) (hfz : ∀ j, j < (n + 1) * 2 → w.frozen? ⟨b, j, none⟩ = false)
    (hvs : ∀ j v, vs[j]? = some v → w.cell? ⟨vb, j, none⟩ = some v) (h1c : ∀ v ∈ cs, v.oneCell' = true) (h1v : ∀ v ∈ vs, v.oneCell' = true)
    (tA tB : TypeId) (kA kB : Nat) (hsa : w.shape? vb = some (tA, kA)) (hsb : w.shape? b = some (tB, kB)) (hkB : kB ≠ 0) (hfa : w.frozen? ⟨vb, 0, none⟩ = false) (hfe : w.frozen? ⟨vb, kA, none⟩ = false),
    Calls P f #[.slice (some ⟨b, 0, none⟩) n c, .int .i64 i, .slice (some ⟨vb, 0, none⟩) 1 vc] w fun e w' =>
      e = .returned (.slice (some ⟨b, 0, none⟩) (n + 1) c) ∧ w' = (w.drew.setCells b ((i + 1) * 2) (cs.drop (i * 2))).setCells b (i * 2) vs
  grow : ∀ (b n c i vb vc : Nat) (cs vs : List Value) (w : World) (hi : i < n) (hnc : n ≤ c) (hroom : c < n + 1) (hbig : (n + 1) * 32 ≤ 140737488355328)
    (hcl : cs.length = n * 2) (hvl : vs.length = 2)
    (hcs : ∀ j v, cs[j]? = some v → w.cell? ⟨b, j, none⟩ = some v)
    (hvs : ∀ j v, vs[j]? = some v → w.cell? ⟨vb, j, none⟩ = some v) (h1c : ∀ v ∈ cs, v.oneCell' = true) (h1v : ∀ v ∈ vs, v.oneCell' = true),
    Calls P f #[.slice (some ⟨b, 0, none⟩) n c, .int .i64 i, .slice (some ⟨vb, 0, none⟩) 1 vc] w fun r w' =>
      r = .returned (.slice (some ⟨w.heap.size, 0, none⟩) (n + 1) (grownCap w (n + 1) c e)) ∧
      w' = (((w.alloc (.cells ((cs.take (i * 2)).toArray ++ Builtin.zeroCells zc (n + 1 - i) ++ Builtin.zeroCells zc (grownCap w (n + 1) c e - (n + 1))) e)).drew.setCells w.heap.size (i * 2) vs).drew).setCells w.heap.size ((i + 1) * 2) (cs.drop (i * 2))
  eroom : ∀ (b n c vb vc : Nat) (vs : List Value) (w : World) (hroom : n + 1 ≤ c) (hc63 : c ≤ 9223372036854775807)
    (hvl : vs.length = 2) (hsp : ∀ j, j < 2 → (w.cell? ⟨b, n * 2 + j, none⟩).isSome = true) (hfz : ∀ j, j < 2 → w.frozen? ⟨b, n * 2 + j, none⟩ = false)
    (hvs : ∀ j v, vs[j]? = some v → w.cell? ⟨vb, j, none⟩ = some v) (h1v : ∀ v ∈ vs, v.oneCell' = true),
    Calls P f #[.slice (some ⟨b, 0, none⟩) n c, .int .i64 n, .slice (some ⟨vb, 0, none⟩) 1 vc] w fun e w' =>
      e = .returned (.slice (some ⟨b, 0, none⟩) (n + 1) c) ∧ w' = w.setCells b (n * 2) vs
  egrow : ∀ (base : Option Addr) (n c vb vc : Nat) (cs vs : List Value) (w : World) (hnc : n ≤ c) (hroom : c < n + 1) (hbig : (n + 1) * 32 ≤ 140737488355328)
    (hcl : cs.length = n * 2) (hvl : vs.length = 2) (hnil : base = none → n = 0)
    (hcs : ∀ a, base = some a → ∀ j v, cs[j]? = some v → w.cell? (a.add j) = some v)
    (hvs : ∀ j v, vs[j]? = some v → w.cell? ⟨vb, j, none⟩ = some v) (h1v : ∀ v ∈ vs, v.oneCell' = true),
    Calls P f #[.slice base n c, .int .i64 n, .slice (some ⟨vb, 0, none⟩) 1 vc] w fun r w' =>
      r = .returned (.slice (some ⟨w.heap.size, 0, none⟩) (n + 1) (grownCap w (n + 1) c e)) ∧
      w' = w.drew.alloc (.cells ((cs ++ vs).toArray ++ Builtin.zeroCells zc (grownCap w (n + 1) c e - (n + 1))) e)
end Go.Bv

namespace Go.Bv
open Go.RowKit
def keptL (p : Nat → Bool) (k : Nat) (us : List Value) : Nat → List Value
  | 0 => []
  | j + 1 => keptL p k us j ++ (if p j = true then [] else (us.drop (j * k)).take k)
def keptN (p : Nat → Bool) : Nat → Nat
  | 0 => 0
  | j + 1 => keptN p j + (if p j = true then 0 else 1)
structure DfRoads (P : Program) (f k : Nat) (e : TypeId) : Prop where
  go : ∀ (b n c g : Nat) (lb : Array Value) (us rest : List Value) (p : Nat → Bool) (w : World),
    w.heap[b]? = some (.cells (us ++ rest).toArray e (0, 0)) → us.length = n * k → n ≤ c → c ≤ maxLen → (us ++ rest).length = c * k → (∀ v ∈ us, v.oneCell' = true) → (∀ args w, (callFunc g args).run P w = .ok (.enter g args) w) →
    (∀ (W : World) (j : Nat), j < n → Fr (fun x => x = b) w W → Calls P g (#[.agg ((us.drop (j * k)).take k).toArray] ++ lb) W fun e w' => e = .returned (.bool (p j)) ∧ Fr (fun _ => False) W w') →
    Calls P f #[.slice (some ⟨b, 0, none⟩) n c, .func (.func g) #[] lb] w fun e' w' => e' = .returned (.slice (some ⟨b, 0, none⟩) (keptN p n) c) ∧ Fr (fun x => x = b) w w' ∧ ∃ rest', w'.heap[b]? = some (.cells (keptL p k us n ++ rest').toArray e (0, 0)) ∧ (keptL p k us n ++ rest').length = c * k
  nil : ∀ (g : Nat) (lb : Array Value) (w : World), Calls P f #[.slice none 0 0, .func (.func g) #[] lb] w fun e w' => e = .returned (.slice none 0 0) ∧ Fr (fun _ => False) w w'
theorem Fr.wide {Z Z' : Nat → Prop} {w w' : World} (h : Fr Z w w') (hz : ∀ b, b < w.heap.size → Z b → Z' b) : Fr Z' w w' :=
  ⟨h.os, h.tape, h.output, h.size, fun b hb hn => h.block b hb (fun q => hn (hz b hb q))⟩
mutual
theorem DV.one {P : Program} {w : World} : ∀ (v : AV) (u : Value) (F : List Nat), DV P w v u F → u.oneCell' = true
  | .int _ _, _, _, ⟨h, _⟩ => by rw [h]; rfl
  | .bool _, _, _, ⟨h, _⟩ => by rw [h]; rfl
  | .str _, _, _, ⟨h, _⟩ => by rw [h]; rfl
  | .sl xs, u, F, ⟨e, sz, us, F', h1, h2, h3, h4⟩ => by
    rcases h2.2 with ⟨rfl, _⟩ | ⟨g, cap, cur, rfl, _⟩ <;> rfl
  | .undef, _, _, h => h.elim
  | .agg _, _, _, h => h.elim
  | .tup _, _, _, h => h.elim
  | .vptr _, _, _, h => h.elim
  | .func _ _, _, _, h => h.elim
  | .mp _ _, _, _, h => h.elim
  | .slx, _, _, h => h.elim
  | .raw _, _, _, h => h.elim
theorem DVL.one {P : Program} {w : World} : ∀ (cs : List AV) (us : List Value) (F : List Nat), DVL P w cs us F → ∀ v ∈ us, v.oneCell' = true
  | [], _, _, ⟨e, _⟩, v, hv => by rw [e] at hv; cases hv
  | c :: cs, us, F, ⟨u, r, F1, F2, h1, h2, h3, h4⟩, v, hv => by
    rw [h1] at hv
    rcases List.mem_cons.1 hv with rfl | hv
    · exact DV.one c _ F1 h3
    · exact DVL.one cs r F2 h4 v hv
end
end Go.Bv

namespace Go.Bv
open Go.RowKit
structure UniRoad (P : Program) (f g : Nat) (tT tU : TypeId) (n : Nat) : Prop where
  go : ∀ (w : World) (a : Option Addr) (len cap : Nat) (xs ys : Array Value) (Q : Ending → World → Prop), xs.size = n → ys.size = n → (∀ v ∈ xs.toList, v.oneCell' = true) → (∀ v ∈ ys.toList, v.oneCell' = true) →
    Calls P g #[.pointer (some ⟨w.heap.size + 1 + 1, 0, none⟩), .agg xs, .agg ys] (((w.alloc (.cells xs tT)).alloc (.cells ys tT)).alloc (.cells #[.slice a len cap, .int .i64 0] tU)) (fun e w' => (∃ q, e = .returned (.bool q)) ∧ Q e w') →
    Calls P f #[.slice a len cap, .agg xs, .agg ys] w Q
theorem alloc_old {w : World} {o : Obj} {b : Nat} (h : b < w.heap.size) : (w.alloc o).heap[b]? = w.heap[b]? := by
  show (w.heap.push o)[b]? = _
  rw [Array.getElem?_push_lt h, Array.getElem?_eq_getElem h]
theorem alloc_size (w : World) (o : Obj) : (w.alloc o).heap.size = w.heap.size + 1 := by show (w.heap.push o).size = _; rw [Array.size_push]
theorem unify_O {P : Program} {f g : Nat} {tT tU : TypeId} {n : Nat} (R : UniRoad P f g tT tU n) {rows rows' : List (List AV)} {xs ys : List AV} {q : Bool} {pz : Int} (hx : xs.length = n) (hy : ys.length = n) (hxl : xs.all AV.leaf = true) (hyl : ys.all AV.leaf = true)
    (h : ∀ hv : Value, FnO P g [.p [.raw hv, .int .i64 0] [(0, .ex tT false rows)], .v (.agg xs) [], .v (.agg ys) []] (.v (.bool q) []) [(0, .p [.raw hv, .int .i64 pz] [(0, .ex tT false rows')])]) :
    FnO P f [.io .slx [(0, .ex tT false rows)], .v (.agg xs) [], .v (.agg ys) []] (.v (.bool q) []) [(0, .v .undef [(0, .ex tT false rows')])] := by
  intro X w us lab hin hX hgt
  obtain ⟨u0, r0, rfl, ⟨h0a, h0b⟩, u1, r1, rfl, ⟨h1a, h1b⟩, u2, r2, rfl, ⟨h2a, h2b⟩, h3⟩ := hin
  have h3 : r2 = [] := h3
  subst h3
  obtain ⟨A0, l0, c0, rfl⟩ := h0a
  obtain ⟨xv, rfl, hxr⟩ := h1a
  obtain ⟨yv, rfl, hyr⟩ := h2a
  obtain ⟨_, c, F, e0, R0, L0⟩ := h0b 0 _ (List.mem_singleton.2 rfl)
  have e0 : c = .slice A0 l0 c0 := (Option.some.inj e0).symm
  subst e0
  have e3 : [Value.slice A0 l0 c0, Value.agg xv.toArray, Value.agg yv.toArray].toArray = #[.slice A0 l0 c0, .agg xv.toArray, .agg yv.toArray] := by simp
  rw [e3]
  obtain ⟨W, hW⟩ : ∃ W, W = ((w.alloc (.cells xv.toArray tT)).alloc (.cells yv.toArray tT)).alloc (.cells #[.slice A0 l0 c0, .int .i64 0] tU) := ⟨_, rfl⟩
  have hWs : W.heap.size = w.heap.size + 3 := by rw [hW, alloc_size, alloc_size, alloc_size]
  have hold : ∀ b, b < w.heap.size → W.heap[b]? = w.heap[b]? := fun b hb => by
    rw [hW, alloc_old (by rw [alloc_size, alloc_size]; omega), alloc_old (by rw [alloc_size]; omega), alloc_old hb]
  have hnew : W.heap[w.heap.size + 2]? = some (.cells #[.slice A0 l0 c0, .int .i64 0] tU (0, 0)) := by
    have e : w.heap.size + 2 = ((w.alloc (.cells xv.toArray tT)).alloc (.cells yv.toArray tT)).heap.size := by rw [alloc_size, alloc_size]
    rw [hW, e]
    exact Array.getElem?_push_size
  have hF1 : Fr (fun _ => False) w W := by
    refine ⟨by rw [hW]; rfl, by rw [hW]; rfl, by rw [hW]; rfl, by omega, fun b hb _ => hold b hb⟩
  refine R.go w A0 l0 c0 xv.toArray yv.toArray _ (by rw [List.size_toArray, hxr.length, hx]) (by rw [List.size_toArray, hyr.length, hy]) (leaf_all hxr hxl) (leaf_all hyr hyl) ?_
  rw [← hW]
  show Calls P g #[.pointer (some ⟨w.heap.size + 2, 0, none⟩), .agg xv.toArray, .agg yv.toArray] W _
  have X1 : ∀ b, b < w.heap.size → (fun b => if b = w.heap.size + 2 then some 0 else X b : Gh) b = X b := fun b hb => if_neg (by omega)
  have Lb1 : ∀ b, b < w.heap.size → (fun b => if b = w.heap.size + 2 then some (0, 0) else lab b : Lab) b = lab b := fun b hb => if_neg (by omega)
  have hE : Ext X w (fun b => if b = w.heap.size + 2 then some 0 else X b) W := by
    refine ⟨fun b o u hc hk => ?_, fun r es q hr hk => ?_⟩
    · have hb : b < w.heap.size := by
        rcases Nat.lt_or_ge b w.heap.size with h | h
        · exact h
        · rw [World.cell?, Array.getElem?_eq_none h] at hc; cases hc
      refine ⟨by rw [World.cell?, hold b hb]; exact hc, ?_⟩
      unfold okc at hk ⊢
      rw [X1 b hb]; exact hk
    · have hb : r < w.heap.size := (Array.getElem?_eq_some_iff.1 hr).1
      exact ⟨(hold r hb).trans hr, (X1 r hb).trans hk⟩
  have hFlt : ∀ b ∈ F, b < w.heap.size := R0.lt
  have hh := h (.slice A0 l0 c0) (fun b => if b = w.heap.size + 2 then some 0 else X b) W [.pointer (some ⟨w.heap.size + 2, 0, none⟩), .agg xv.toArray, .agg yv.toArray] (fun b => if b = w.heap.size + 2 then some (0, 0) else lab b)
    ⟨_, _, rfl, ⟨w.heap.size + 2, _, tU, rfl, if_pos rfl, if_pos rfl, hnew, ⟨_, _, rfl, ⟨rfl, _, _, _, rfl⟩, ⟨_, _, rfl, rfl, rfl⟩⟩, fun j oe hj => by
        obtain ⟨rfl, rfl⟩ := Prod.mk.inj (List.mem_singleton.1 hj)
        exact ⟨rfl, _, F, rfl, R0.stay (fun b hb => ⟨hold b (hFlt b hb), X1 b (hFlt b hb)⟩) hE, fun b hb => (Lb1 b (hFlt b hb)).trans (L0 b hb)⟩⟩,
      _, _, rfl, ⟨⟨_, rfl, RelL.mono hE _ _ hxr⟩, fun j oe hj => by cases hj⟩, _, _, rfl, ⟨⟨_, rfl, RelL.mono hE _ _ hyr⟩, fun j oe hj => by cases hj⟩, rfl⟩
    (fun b hb => ⟨(if_neg (by omega)).trans (hX b (by omega)).1, (if_neg (by omega)).trans (hX b (by omega)).2⟩)
    (hgt.on (hF1.wide fun _ _ h => h.elim) (fun b hb hq => by obtain ⟨q, hq⟩ := hq; exact ⟨q, (Lb1 b hb).symm.trans hq⟩))
  have e4 : [Value.pointer (some ⟨w.heap.size + 2, 0, none⟩), Value.agg xv.toArray, Value.agg yv.toArray].toArray = #[.pointer (some ⟨w.heap.size + 2, 0, none⟩), .agg xv.toArray, .agg yv.toArray] := by simp
  rw [e4] at hh
  refine Calls.mono hh ?_
  rintro ex w' ⟨u, X', lab', rfl, hf, g1, g2, ⟨hu, _⟩, g3⟩
  have hu : u = .bool q := hu
  subst hu
  refine ⟨⟨_, rfl⟩, .bool q, X', lab', rfl, ⟨hf.os.trans hF1.os, hf.tape.trans hF1.tape, hf.output.trans hF1.output, Nat.le_trans hF1.size hf.size, fun b hb hn => ?_⟩, fun b hb hl => ?_, g2, ⟨rfl, fun j oe hj => by cases hj⟩, fun i qq hi => ?_⟩
  · exact (hf.block b (by omega) (fun hq => hn (by obtain ⟨z, hz⟩ := hq; exact ⟨z, (Lb1 b hb).symm.trans hz⟩))).trans (hold b hb)
  · have := g1 b (by omega) ((Lb1 b hb).trans hl)
    exact ⟨this.1.trans (X1 b hb), this.2⟩
  · obtain ⟨rfl, rfl⟩ := Prod.mk.inj (List.mem_singleton.1 hi)
    obtain ⟨v, hv, b', us', e', k1, k2, k3, k4, k5, k6⟩ := g3 0 _ (List.mem_singleton.2 rfl)
    obtain ⟨c1, r1, q1, ⟨q2, _⟩, _⟩ := k5
    obtain ⟨_, c2, F2, q3, q4, q5⟩ := k6 0 _ (List.mem_singleton.2 rfl)
    have e5 : c2 = .slice A0 l0 c0 := by
      rw [q1, q2] at q3
      exact (Option.some.inj q3).symm
    subst e5
    refine ⟨_, rfl, trivial, fun j oe hj => ?_⟩
    obtain ⟨rfl, rfl⟩ := Prod.mk.inj (List.mem_singleton.1 hj)
    exact ⟨rfl, _, F2, rfl, q4, q5⟩
end Go.Bv

namespace Go.Bv
open Go.RowKit
inductive RF where
  | raw (t d j : Nat)
  | al (t d j : Nat)
def rfL (L : Look) : RF → Option (List Upd × List Prop)
  | .raw t d j => match L.t t, L.b d with
    | some (.v .slx, [(0, .al p [])]), some (.cells cs own) => match OP.same p (.b d j), cs[j]?, lkO own j with
      | true, some (.raw hv), some (.ex _ _ _) => some ([.t t (.v (.raw hv), [])], [])
      | _, _, _ => none
    | _, _ => none
  | .al t d j => match L.t t, L.b d with
    | some (.v (.raw hw), []), some (.cells cs own) => match cs[j]?, lkO own j with
      | some (.raw hv), some (.ex _ _ _) => some ([.t t (.v .slx, [(0, .al (.b d j) [])])], [hw = hv])
      | _, _ => none
    | _, _ => none
theorem relL_get {X : Gh} {w : World} : ∀ {cs : List AV} {us : List Value} {j : Nat} {c : AV}, RelL X w cs us → cs[j]? = some c → ∃ u, us[j]? = some u ∧ Rel X w c u
  | [], _, _, _, _, h => by cases h
  | c :: cs, us, 0, d, ⟨u, r, e, h1, h2⟩, h => by
    cases h
    subst e
    exact ⟨u, rfl, h1⟩
  | c :: cs, us, j + 1, d, ⟨u, r, e, h1, h2⟩, h => by
    subst e
    exact relL_get (j := j) h2 h
theorem Inv.setTmp {E : Env} {L : Look} {a : Act} {w : World} {G : Gho} (hI : Inv E L a w G) {t : Nat} {e : SV × OwnL} (hlt : t < E.n) (h1 : RelS G w e.1 (a.tmps.getD t undef))
    (h2 : ∀ j oe, (j, oe) ∈ e.2 → ∃ u, (Value.flat (a.tmps.getD t undef))[j]? = some u ∧ Own E.P G w (.t t j) oe u) : Inv E (L.upds [.t t e]) a w G := by
  refine { hI with tm := fun s sv own h => ?_, bo := hI.bo, gr := hI.gr }
  have h : (if s = t then some e else L.t s) = some (sv, own) := h
  by_cases hs : s = t
  · rw [if_pos hs] at h
    cases h
    subst hs
    exact ⟨hlt, h1, h2⟩
  · rw [if_neg hs] at h
    exact hI.tm s sv own h
theorem box_raw {E : Env} {L : Look} {a : Act} {w : World} {G : Gho} (hI : Inv E L a w G) {d j : Nat} {cs : List AV} {own : OwnL} {hv : Value} {e : TypeId} {dp : Bool} {xs : List (List AV)}
    (hb : L.b d = some (.cells cs own)) (hc : cs[j]? = some (.raw hv)) (ho : lkO own j = some (.ex e dp xs)) : G.pv (.b d j) = hv ∧ ∃ A l k, hv = .slice A l k := by
  obtain ⟨us, e', _, hr, hw⟩ := (hI.bo d _ hb).2.2
  obtain ⟨u, hu, h1, h2⟩ := relL_get hr hc
  obtain ⟨u', hu', h3, _⟩ := hw j _ (lkO_mem ho)
  rw [Array.getElem?_toList, hu'] at hu
  cases hu
  subst h1
  exact ⟨h3, h2⟩
theorem rfL_sound {E : Env} {L : Look} {a : Act} {w : World} {f : RF} {ups : List Upd} {obs : List Prop} (hI : SR E L a w) (h : rfL L f = some (ups, obs)) (hob : ∀ p ∈ obs, p) : SR E (L.upds ups) a w := by
  obtain ⟨G, hI⟩ := hI
  cases f with
  | raw t d j =>
    simp only [rfL] at h
    split at h
    · rename_i p cs own ht hb
      split at h
      · rename_i hv e dp xs hp hc ho
        cases h
        obtain ⟨h1, h2⟩ := box_raw hI hb hc ho
        obtain ⟨hlt, h3, h4⟩ := hI.tm _ _ _ ht
        obtain ⟨u, hu, h5, h6⟩ := h4 0 _ (List.mem_singleton.2 rfl)
        have hp := OP.same_iff.1 hp
        subst hp
        have h5 : u = G.pv (.b d j) := h5
        obtain ⟨A, l, k, h3⟩ : ∃ A l k, a.tmps.getD t undef = .slice A l k := h3
        have : u = a.tmps.getD t undef := by
          rw [h3] at hu ⊢
          simpa [Value.flat, Value.cells] using hu.symm
        refine ⟨G, hI.setTmp hlt ⟨?_, ⟨A, l, k, h3⟩⟩ (fun j oe hj => by cases hj)⟩
        rw [← this, h5, h1]
      · cases h
    · cases h
  | al t d j =>
    simp only [rfL] at h
    split at h
    · rename_i hw cs own ht hb
      split at h
      · rename_i hv e dp xs hc ho
        cases h
        obtain ⟨h1, h2⟩ := box_raw hI hb hc ho
        obtain ⟨hlt, h3, h4⟩ := hI.tm _ _ _ ht
        obtain ⟨h3, A, l, k, h5⟩ : a.tmps.getD t undef = hw ∧ ∃ A l k, a.tmps.getD t undef = .slice A l k := h3
        have hh : hw = hv := hob _ (List.mem_singleton.2 rfl)
        refine ⟨G, hI.setTmp hlt ⟨A, l, k, h5⟩ (fun j' oe hj => ?_)⟩
        obtain ⟨rfl, rfl⟩ := Prod.mk.inj (List.mem_singleton.1 hj)
        refine ⟨a.tmps.getD t undef, ?_, ?_, A, l, k, h5⟩
        · rw [h5]; simp [Value.flat, Value.cells]
        · show a.tmps.getD t undef = G.pv (.b d j)
          rw [h3, hh, h1]
      · cases h
    · cases h
def rfs (st : St) : List RF → Option (St × List Prop)
  | [] => some (st, [])
  | f :: fs => match rfL st.look f with
    | some (us, ob) => match rfs (st.upds us) fs with
      | some (s, ob2) => some (s, ob ++ ob2)
      | none => none
    | none => none
theorem rfs_sound {E : Env} {a : Act} {w : World} : ∀ {fs : List RF} {st st' : St} {obs : List Prop}, SR E st.look a w → rfs st fs = some (st', obs) → (∀ p ∈ obs, p) → SR E st'.look a w
  | [], st, st', obs, hI, h, _ => by cases h; exact hI
  | f :: fs, st, st', obs, hI, h, hob => by
    simp only [rfs] at h
    split at h
    · rename_i us ob hu
      split at h
      · rename_i s ob2 h2
        cases h
        exact rfs_sound (by rw [St.look_upds]; exact rfL_sound hI hu (fun p hp => hob p (List.mem_append_left _ hp))) h2 (fun p hp => hob p (List.mem_append_right _ hp))
      · cases h
    · cases h
def rStep (P : Program) (n : Nat) (ops : List Oper) (pre post : List RF) (st : St) (o : Oper) (h : Hint) : Option (St × List Prop) :=
  match rfs st pre with
  | some (s1, ob1) => match aStep P n ops s1 o h with
    | some (s2, ob2) => match rfs s2 post with
      | some (s3, ob3) => some (s3, ob1 ++ ob2 ++ ob3)
      | none => none
    | none => none
  | none => none
def normS (A B C : List Nat) (s : St) : Option St :=
  s.keep (A.filter fun k => (lk s.t k).isSome) (B.filter fun k => (lk s.b k).isSome) (C.filter fun k => (lk s.g k).isSome)
def bitsA (n c : Nat) : Array Bool := ((List.range n).map fun i => c.testBit i).toArray
section
variable (P : Program) (n : Nat) (ops : Array Oper) (hs : List Hint) (pre post : List (List RF)) (A B C : List Nat)
def mStep (st : St) (i : Nat) : Option (St × List Prop) :=
  match ops[i]? with
  | some o => match rStep P n ops.toList (pre.getD i []) (post.getD i []) st o (hs.getD i {}) with
    | some (s, ob) => match normS A B C s with
      | some s' => some (s', ob)
      | none => none
    | none => none
  | none => none
def canon (c : Nat) : List Nat → Option St → Option St
  | [], s => s
  | i :: is, s => canon c is (match c.testBit i with | true => (s.bind fun st => (mStep P n ops hs pre post A B C st i).map Prod.fst) | false => s)
def canonD (st : St) (c : Nat) : St := (canon P n ops hs pre post A B C c (List.range ops.size) (some st)).getD st
def meetE (st : St) (OO : List (List Prop)) (c : Nat) : List (Option (St × List Prop) × Option (St × List Prop)) :=
  (Region.ready .any ops (bitsA ops.size c)).map fun i => (mStep P n ops hs pre post A B C (canonD P n ops hs pre post A B C st c) i, some (canonD P n ops hs pre post A B C st (c ||| 2 ^ i), OO.getD i []))
def meetL (st : St) (OO : List (List Prop)) : List Nat → List (Option (St × List Prop) × Option (St × List Prop))
  | [] => []
  | c :: cs => meetE P n ops hs pre post A B C st OO c ++ meetL st OO cs
end
def closedL (ops : Array Oper) (cs : List Nat) : List Nat → Bool
  | [] => true
  | c :: l => ((Region.ready .any ops (bitsA ops.size c)).all fun i => memN (c ||| 2 ^ i) cs) && (match Region.ready .any ops (bitsA ops.size c) with | [] => Nat.beq c (2 ^ ops.size - 1) | _ => true) && closedL ops cs l
theorem bitsA_size (n c : Nat) : (bitsA n c).size = n := by simp [bitsA]
theorem bitsA_set {n c i : Nat} (h : i < n) : (bitsA n c).setIfInBounds i true = bitsA n (c ||| 2 ^ i) := by
  apply Array.ext
  · simp [bitsA]
  · intro j h1 h2
    have hj : j < n := by simpa [bitsA] using h2
    rw [Array.getElem_setIfInBounds (by simpa [bitsA] using hj)]
    · simp only [bitsA, List.getElem_toArray, List.getElem_map, List.getElem_range, Nat.testBit_or, Nat.testBit_two_pow]
      by_cases hij : i = j
      · subst hij; simp
      · simp [hij]
theorem bits0 (n : Nat) : Array.replicate n false = bitsA n 0 := by
  apply Array.ext
  · simp [bitsA]
  · intro j h1 h2
    simp [bitsA]
theorem closedL_mem {ops : Array Oper} {cs : List Nat} : ∀ {l : List Nat}, closedL ops cs l = true → ∀ c ∈ l, (∀ i ∈ Region.ready .any ops (bitsA ops.size c), (c ||| 2 ^ i) ∈ cs) ∧ (Region.ready .any ops (bitsA ops.size c) = [] → c = 2 ^ ops.size - 1)
  | [], _, c, hc => by cases hc
  | x :: l, h, c, hc => by
    simp only [closedL, Bool.and_eq_true] at h
    rcases List.mem_cons.1 hc with rfl | hc
    · refine ⟨fun i hi => memN_iff.1 (List.all_eq_true.1 h.1.1 i hi), fun hr => ?_⟩
      have := h.1.2
      rw [hr] at this
      exact Nat.eq_of_beq_eq_true this
    · exact closedL_mem h.2 c hc
section
variable {En : Env} {Q : Exit → Act → World → Prop} {ops : Array Oper} {hs : List Hint} {pre post : List (List RF)} {A B C : List Nat}
theorem meetL_mem {P : Program} {n : Nat} {st : St} {OO : List (List Prop)} : ∀ {l : List Nat}, (meetL P n ops hs pre post A B C st OO l).map Prod.fst = (meetL P n ops hs pre post A B C st OO l).map Prod.snd →
    ∀ c ∈ l, (meetE P n ops hs pre post A B C st OO c).map Prod.fst = (meetE P n ops hs pre post A B C st OO c).map Prod.snd
  | [], _, c, hc => by cases hc
  | x :: l, h, c, hc => by
    simp only [meetL, List.map_append] at h
    have h := List.append_inj h (by simp)
    rcases List.mem_cons.1 hc with rfl | hc
    · exact h.1
    · exact meetL_mem h.2 c hc
theorem meet_sound {st st' : St} {OO : List (List Prop)} {cs : List Nat} (hob : ∀ l ∈ OO, ∀ p ∈ l, p) (hQ : ∀ a w, SR En st'.look a w → Q .normal a w)
    (hcl : closedL ops cs cs = true) (hm : ∀ c ∈ cs, (meetE En.P En.n ops hs pre post A B C st OO c).map Prod.fst = (meetE En.P En.n ops hs pre post A B C st OO c).map Prod.snd)
    {fs : List Fix} {ts bs gs : List Nat} (hf : (fixes (canonD En.P En.n ops hs pre post A B C st (2 ^ ops.size - 1)) fs).bind (fun s => s.keep ts bs gs) = some st') :
    ∀ (fuel : Nat) (c : Nat) (a : Act) (w : World), c ∈ cs → (bitsA ops.size c).toList.count false ≤ fuel → SR En (canonD En.P En.n ops hs pre post A B C st c).look a w → wpAny En.P .any ops Q fuel (bitsA ops.size c) a w
  | fuel, c, a, w, hc, hn, hI => by
    obtain ⟨hcl1, hcl2⟩ := closedL_mem hcl c hc
    have hdone : Region.ready .any ops (bitsA ops.size c) = [] → Q .normal a w := by
      intro hr
      have := hcl2 hr
      subst this
      rw [Option.bind_eq_some_iff] at hf
      obtain ⟨s1, h1, h2⟩ := hf
      exact hQ a w ((fixes_sound hI h1).keep h2)
    have hst : ∀ i ∈ Region.ready .any ops (bitsA ops.size c), fuel ≠ 0 := by
      intro i hi h0
      obtain ⟨hilt, hun, _⟩ := ready_iff.1 hi
      subst h0
      have h0 : (bitsA ops.size c).toList.count false = 0 := Nat.le_zero.1 hn
      rw [List.count_eq_zero] at h0
      apply h0
      rw [Array.mem_toList_iff]
      rw [Array.getD_eq_getD_getElem?, Array.getElem?_eq_getElem (by rw [bitsA_size]; exact hilt)] at hun
      have hun : (bitsA ops.size c)[i]'(by rw [bitsA_size]; exact hilt) = false := hun
      rw [← hun]
      exact Array.getElem_mem _
    cases fuel with
    | zero =>
      cases hr : Region.ready .any ops (bitsA ops.size c) with
      | nil => exact ⟨hr, hdone hr⟩
      | cons i is => exact (hst i (by rw [hr]; exact List.mem_cons_self ..) rfl).elim
    | succ fuel =>
      refine ⟨hdone, fun i hi => ?_⟩
      obtain ⟨hilt, hun, o, ho, _⟩ := ready_iff.1 hi
      have ho' : ops[i]? = some o := by simpa using ho
      have hE := hm c hc
      rw [meetE, List.map_map, List.map_map] at hE
      have hE : mStep En.P En.n ops hs pre post A B C (canonD En.P En.n ops hs pre post A B C st c) i = some (canonD En.P En.n ops hs pre post A B C st (c ||| 2 ^ i), OO.getD i []) := List.map_inj_left.1 hE i hi
      have hobs : ∀ p ∈ OO.getD i [], p := by
        intro p hp
        rw [List.getD_eq_getElem?_getD] at hp
        cases hg : OO[i]? with
        | none => rw [hg] at hp; cases hp
        | some l => rw [hg] at hp; exact hob l (List.mem_of_getElem? hg) p hp
      have hcnt : (bitsA ops.size (c ||| 2 ^ i)).toList.count false ≤ fuel := by
        rw [← bitsA_set hilt, Array.toList_setIfInBounds]
        have hlt2 : i < (bitsA ops.size c).toList.length := by simpa [bitsA_size] using hilt
        rw [List.count_set hlt2]
        have : (bitsA ops.size c).toList[i] = false := by
          rw [Array.getD_eq_getD_getElem?, Array.getElem?_eq_getElem (by rw [bitsA_size]; exact hilt)] at hun
          simpa using hun
        rw [this]
        show List.count false (bitsA ops.size c).toList - 1 + 0 ≤ fuel
        omega
      unfold mStep at hE
      rw [ho'] at hE
      simp only at hE
      split at hE
      · rename_i s ob hst1
        split at hE
        · rename_i s' hk
          have hE := Option.some.inj hE
          have e1 := congrArg Prod.fst hE
          have e2 := congrArg Prod.snd hE
          simp only at e1 e2
          rw [← e2] at hobs
          unfold rStep at hst1
          split at hst1
          · rename_i s1 ob1 h1
            split at hst1
            · rename_i s2 ob2 h2
              split at hst1
              · rename_i s3 ob3 h3
                cases hst1
                have hI1 := rfs_sound hI h1 (fun p hp => hobs p (by simp [hp]))
                unfold wpOp
                rw [ho']
                simp only
                refine aStep_sound hI1 h2 (fun p hp => hobs p (by simp [hp])) (fun a' w' hI' => ?_)
                rw [bitsA_set hilt]
                refine meet_sound hob hQ hcl hm hf fuel _ a' w' (hcl1 i hi) hcnt ?_
                rw [← e1]
                exact (rfs_sound hI' h3 (fun p hp => hobs p (by simp [hp]))).keep hk
              · cases hst1
            · cases hst1
          · cases hst1
        · cases hE
      · cases hE
end
theorem Wc.meet {En : Env} (hm : En.P.follows .mixedOrders = true) {st : St} {K : AE → St → Prop} {id : Nat} {ops : Array Oper} (hs : List Hint) (pre post : List (List RF)) (A B C : List Nat) (fs : List Fix) (ts bs gs : List Nat) (st' : St) (OO : List (List Prop)) (cs : List Nat)
    (h0 : memN 0 cs = true) (hcl : closedL ops cs cs = true)
    (h1 : (meetL En.P En.n ops hs pre post A B C st OO cs).map Prod.fst = (meetL En.P En.n ops hs pre post A B C st OO cs).map Prod.snd)
    (h2 : canonD En.P En.n ops hs pre post A B C st 0 = st)
    (hf : (fixes (canonD En.P En.n ops hs pre post A B C st (2 ^ ops.size - 1)) fs).bind (fun s => s.keep ts bs gs) = some st') (hob : AllPP OO) (hK : K .normal st') : Wc En (.region id ops true) st K := by
  intro a w hI Q hQ
  refine wp_region_any hm ?_
  obtain ⟨G, hI⟩ := hI
  rw [bits0]
  exact meet_sound hob.mem (fun a' w' hI' => hQ .normal st' a' w' hK hI') hcl (meetL_mem h1) hf ops.size 0 a _ (memN_iff.1 h0) (by
    refine Nat.le_trans List.count_le_length ?_
    rw [Array.length_toList, bitsA_size]; exact Nat.le_refl _) (by rw [h2]; exact ⟨G, hI.drawn⟩)
theorem relL_slx {X : Gh} {w : World} {v : Value} {cs : List AV} : ∀ {us : List Value}, RelL X w (.raw v :: cs) us → RelL X w (.slx :: cs) us
  | us, ⟨u, r, e, ⟨h1, h2⟩, h3⟩ => ⟨u, r, e, h2, h3⟩
theorem unraw_O {P : Program} {f : Nat} {cs cs' : List AV} {own own' : OwnL} {args : List AD} {r : AD}
    (h : ∀ hv : Value, FnO P f (.p (.raw hv :: cs) own :: args) r [(0, .p (.raw hv :: cs') own')]) : FnO P f (.p (.slx :: cs) own :: args) r [(0, .p (.slx :: cs') own')] := by
  intro X w us lab hin hX hgt
  obtain ⟨u, rs, rfl, ⟨b, vs, e, k1, k2, k3, k4, k5, k6⟩, h2⟩ := hin
  obtain ⟨v0, r0, e0, hv0, hr0⟩ := k5
  refine Calls.mono (h v0 X w (u :: rs) lab ⟨u, rs, rfl, ⟨b, vs, e, k1, k2, k3, k4, ⟨v0, r0, e0, ⟨rfl, hv0⟩, hr0⟩, k6⟩, h2⟩ hX hgt) ?_
  rintro ex w' ⟨u', X', lab', g0, g1, g2, g3, g4, g5⟩
  refine ⟨u', X', lab', g0, g1, g2, g3, g4, fun i q hi => ?_⟩
  obtain ⟨rfl, rfl⟩ := Prod.mk.inj (List.mem_singleton.1 hi)
  obtain ⟨v, hv, b', us', e', q1, q2, q3, q4, q5, q6⟩ := g5 0 _ (List.mem_singleton.2 rfl)
  exact ⟨v, hv, b', us', e', q1, q2, q3, q4, relL_slx q5, q6⟩
end Go.Bv

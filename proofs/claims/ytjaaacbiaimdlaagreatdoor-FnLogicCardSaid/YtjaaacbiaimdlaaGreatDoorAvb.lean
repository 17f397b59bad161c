/- Values of calls, told abstractly, with what is held: part 2. -/
import Derived.Test.YtjaaacbiaimdlaaGreatDoorAva
set_option linter.unusedVariables false
set_option linter.unusedSimpArgs false
namespace Go.Bv
open Go.RowKit
variable {E : Env} {P : Program} {n : Nat} {L L' : Look} {a : Act} {w w' : World} {G G' : Gho} {D D' : LP → Prop} {o : Oper} {d : Nat} {h : Hint} {ups : List Upd} {obs : List Prop}
def Cont (P : Program) (G : Gho) (w : World) (p : OP) (dp : Bool) (xs : List AV) (us : List Value) (F : List Nat) : Prop :=
 match dp with
 | true => DVL P w xs us F ∧ F.Nodup ∧ ∀ b ∈ F, G.lab b = some (.own p) ∧ G.X b = some 0
 | false => F = [] ∧ RelL G.X w xs us
theorem Cont.length {p : OP} {dp : Bool} {xs : List AV} {us : List Value} {F : List Nat} (h : Cont P G w p dp xs us F) : us.length = xs.length := by
 cases dp with
 | true => exact h.1.length
 | false => exact h.2.length
theorem Cont.append {p : OP} {dp : Bool} {xs ys : List AV} {us vs : List Value} {F F' : List Nat} (h : Cont P G w p dp xs us F) (h' : Cont P G w p dp ys vs F') (hd : dp = true → ∀ b ∈ F, b ∉ F') : Cont P G w p dp (xs ++ ys) (us ++ vs) (F ++ F') := by
 cases dp with
 | true =>
  obtain ⟨a1, a2, a3⟩ := h
  obtain ⟨b1, b2, b3⟩ := h'
  refine ⟨a1.append b1, List.nodup_append.2 ⟨a2, b2, fun x hx y hy e => hd rfl x hx (e ▸ hy)⟩, fun b hb => (List.mem_append.1 hb).elim (a3 b) (b3 b)⟩
 | false =>
  obtain ⟨rfl, a2⟩ := h
  obtain ⟨rfl, b2⟩ := h'
  exact ⟨rfl, a2.append b2⟩
theorem Ze8 : ∀ (cs : List AV) (k : Nat) (cs' : List AV) (us : List Value) (own : OwnL) (src : Nat → OP), Zbr own k cs = some cs' → RelL G.X w cs us →
  (∀ i oe, (k + i, oe) ∈ own → i < cs.length → oe.owner = true → ∃ c, us[i]? = some c ∧ ∃ F, Rs P G.X w oe c F ∧ ∀ b ∈ F, G.lab b = some (.own (src (k + i)))) → (∀ i j, src i = src j → i = j) →
  ∃ F, DVL P w cs' us F ∧ F.Nodup ∧ ∀ b ∈ F, G.X b = some 0 ∧ ∃ i, k ≤ i ∧ G.lab b = some (.own (src i))
 | [], k, cs', us, own, src, hf, hr, _, _ => by
  simp [Zbr] at hf; subst hf
  rw [show us = [] from hr]
  exact ⟨[], ⟨rfl, rfl⟩, List.nodup_nil, by simp⟩
 | c :: cs, k, cs', us, own, src, hf, ⟨u, r, e, hu, hr⟩, ho, hinj => by
  subst e
  simp only [Zbr] at hf
  split at hf
  ·rename_i r' hr'
   obtain ⟨F2, d1, d2, d3⟩ := Ze8 cs (k + 1) r' r own src hr' hr (fun i oe hi hlt hw => by
    obtain ⟨c, hc, h⟩ := ho (i + 1) oe (by rw [show k + (i + 1) = k + 1 + i by omega]; exact hi) (by simpa using hlt) hw
    exact ⟨c, by simpa using hc, by rw [show k + 1 + i = k + (i + 1) by omega]; exact h⟩) hinj
   -- the first cell
   have first : ∀ (c' : AV) (F1 : List Nat), DV P w c' u F1 → F1.Nodup → (∀ b ∈ F1, G.X b = some 0 ∧ G.lab b = some (.own (src k))) → cs' = c' :: r' →
     ∃ F, DVL P w cs' (u :: r) F ∧ F.Nodup ∧ ∀ b ∈ F, G.X b = some 0 ∧ ∃ i, k ≤ i ∧ G.lab b = some (.own (src i)) := by
    intro c' F1 e1 e2 e3 e4
    subst e4
    refine ⟨F1 ++ F2, ⟨u, r, F1, F2, rfl, rfl, e1, d1⟩, List.nodup_append.2 ⟨e2, d2, fun x hx y hy e => ?_⟩, fun b hb => ?_⟩
    ·subst e
     obtain ⟨_, i, hi, hl⟩ := d3 x hy
     rw [(e3 x hx).2] at hl
     have h9 : src k = src i := by injection hl with h; injection h
     have := hinj k i h9
     omega
    ·rcases List.mem_append.1 hb with hb | hb
     ·exact ⟨(e3 b hb).1, k, Nat.le_refl _, (e3 b hb).2⟩
     ·obtain ⟨h1, i, h2, h3⟩ := d3 b hb; exact ⟨h1, i, by omega, h3⟩
   split at hf
   ·rename_i e ys hl
    cases hf
    obtain ⟨v, hv, F1, ⟨e2, sz, us', F', _, g1, g2, g3, g4, rfl, g6, g7⟩, hF⟩ := ho 0 _ (Z3x hl) (by simp) rfl
    simp at hv; subst hv
    exact first (.sl ys) _ ⟨e2, sz, us', F', g1, g2, Zdt.2 ⟨g3, g4⟩, rfl⟩ g6 (fun b hb => ⟨g7 b hb, hF b hb⟩) rfl
   ·rename_i e hl
    split at hf
    ·cases hf
     obtain ⟨v, hv, F1, ⟨sz, n, us', g1, g2, rfl, g4⟩, hF⟩ := ho 0 _ (Z3x hl) (by simp) rfl
     simp at hv; subst hv
     obtain ⟨A, len, cap, hu1, hu2, _⟩ := hu
     have hn : n = 0 := by
      rcases g2.2 with ⟨e1, e2⟩ | ⟨g, cp, cur, e1, _⟩
      ·exact e2
      ·rw [hu1] at e1; cases e1; simpa using hu2
     subst hn
     have hus : us' = [] := List.eq_nil_of_length_eq_zero (by rw [g2.1]; simp)
     subst hus
     exact first (.sl []) _ ⟨e, sz, [], [], g1, g2, ⟨rfl, rfl⟩, by simp⟩ (by unfold blks; split <;> simp) (fun b hb => ⟨by rw [g4 b hb]; simp, hF b hb⟩) rfl
    ·cases hf
   ·cases hf
   ·split at hf
    ·rename_i k m; cases hf; exact first (.int k m) [] ⟨hu, rfl⟩ List.nodup_nil (by simp) rfl
    ·rename_i m; cases hf; exact first (.bool m) [] ⟨hu, rfl⟩ List.nodup_nil (by simp) rfl
    ·rename_i m; cases hf; exact first (.str m) [] ⟨hu, rfl⟩ List.nodup_nil (by simp) rfl
    ·cases hf
  ·cases hf
theorem Z8w : ∀ {cs cs' : List AV} {own : OwnL} {k : Nat}, Zbr own k cs = some cs' → cs'.length = cs.length
 | [], cs', own, k, h => by simp [Zbr] at h; subst h; rfl
 | c :: cs, cs', own, k, h => by
  simp only [Zbr] at h
  split at h
  ·rename_i r hr
   have ih := Z8w hr
   split at h
   ·cases h; simp [ih]
   ·split at h
    ·cases h; simp [ih]
    ·cases h
   ·cases h
   ·split at h <;> first | (cases h; simp [ih]) | cases h
  ·cases h
def dpOf (md : Nat) : Bool := match md with | 0 => false | 1 => false | _ => true
theorem Zho {md : Nat} {own : OwnL} {cs cs' : List AV} (h : Zoy md own cs = some cs') : cs'.length = cs.length := by
 have hs : Zna own cs = some cs' → cs'.length = cs.length := by
  intro h
  unfold Zna at h
  split at h
  ·cases h; rfl
  ·cases h
 unfold Zoy at h
 split at h
 ·exact hs h
 ·exact hs h
 ·exact Z8w h
def Zbq (t : Nat) (p : OP) : OP → OP
 | .t k j => if k = t then p else .t k j
 | q => q
theorem Inv.partIn (hI : Inv E L a w G) {D0 : LP → Prop} (hav : Av D0 L) {x : Operand} {av : AV} {o' : OwnL} {pre : List Upd} (hG : Grabbed E L a w G x (.v av) o' pre) {md : Nat} {c : List AV} (hf : Zoy md o' av.cells = some c) (hsol : av.solid = true)
  {p : OP} (hp : ∀ t, pre ≠ [] → x = .tmp t → ∀ j, p ≠ .t t j) :
  ∃ G', G'.X = G.X ∧ (∀ b, G.lab b = some (.own p) → G'.lab b = some (.own p)) ∧ (∀ b, G.lab b = none → G'.lab b = none) ∧ (∀ q, G'.pv q = G.pv q) ∧ G'.bx = G.bx ∧ Inv E (L.upds pre) a w G' ∧ Av D0 (L.upds pre) ∧ Rel G.X w av (a.eval x) ∧
   ∃ F, Cont E.P G' w p (dpOf md) c (a.eval x).cells.toList F ∧ (dpOf md = true → ∀ b ∈ F, G.lab b ≠ some (.own p)) := by
 -- seen by others
 have shared : ∀ {G' : Gho}, G'.X = G.X → Rel G.X w av (a.eval x) → Zna o' av.cells = some c → RelL G'.X w c (a.eval x).cells.toList := by
  intro G' e hr h
  unfold Zna at h
  split at h
  ·cases h; rw [e]; exact Z2t hr hsol
  ·cases h
 cases hG with
 | seen hr hoo =>
  refine ⟨G, rfl, fun b h => h, fun b h => h, fun q => rfl, rfl, hI, hav, hr, ?_⟩
  unfold Zoy at hf
  split at hf
  ·exact ⟨[], ⟨rfl, shared rfl hr hf⟩, by simp [dpOf]⟩
  ·exact ⟨[], ⟨rfl, shared rfl hr hf⟩, by simp [dpOf]⟩
  ·rename_i h0 h1
   obtain ⟨F, d1, d2, d3⟩ := Ze8 (P := E.P) (G := G) (w := w) av.cells 0 c _ o' (fun i => .t 0 i) hf (Z2t hr hsol) (fun i oe hi hlt hw => by
    have := (hoo _ oe hi).1; rw [hw] at this; cases this) (fun i j e => by cases e; rfl)
   -- nothing is held: the content has no memory
   have hF : F = [] := by
    have : ∀ (cs : List AV) (k : Nat) (cs' : List AV) (us : List Value) (F : List Nat), Zbr o' k cs = some cs' → DVL E.P w cs' us F → F = [] := by
     intro cs
     induction cs with
     | nil => intro k cs' us F h1 h2; simp [Zbr] at h1; subst h1; exact h2.2
     | cons y cs ih =>
      intro k cs' us F h1 h2
      simp only [Zbr] at h1
      split at h1
      ·rename_i r hr
       have noown : ∀ {oe : OE}, lkO o' k = some oe → oe.owner = false := fun h => (hoo _ _ (Z3x h)).1
       split at h1
       ·rename_i h3; have := noown h3; cases this
       ·rename_i h3; have := noown h3; cases this
       ·cases h1
       ·split at h1 <;> first
         | (cases h1; obtain ⟨u, r', F1, F2, _, rfl, e3, e4⟩ := h2; rw [e3.2, ih (k + 1) _ _ _ hr e4]; rfl)
         | cases h1
      ·cases h1
    exact this _ _ _ _ _ hf d1
   subst hF
   have hdp : dpOf md = true := by unfold dpOf; split <;> simp_all
   refine ⟨[], ?_, by simp⟩
   rw [hdp]
   exact ⟨d1, d2, by simp⟩
 | taken t y hx hs ht hn =>
  subst hx; cases hs
  have hpt := hp t (by simp) rfl
  obtain ⟨_, hr, hoo⟩ := hI.tm t _ _ ht
  obtain ⟨h1, av1⟩ := hI.clear ht
  have av2 : Av D0 (L.upds [.f (.t t), .t t (.v av, [])]) := (hav.f (.t t)).setT trivial (fun j oe hj => by cases hj)
  have hfl : Value.flat (a.eval (.tmp t)) = (a.eval (.tmp t)).cells.toList := Z4j (Z3p (u := a.eval (.tmp t)) hr hsol)
  have hS : Stp (DR (.t t)) w w G (G.hand (Zbq t p) G.pv) := Stp.hand hI (fun q hq => by
   cases q with
   | b i j => rfl
   | t i j => simp only [DR] at hq; simp only [Zbq, if_neg hq]
   | a i j => rfl) (fun q _ => rfl) (fun i j => rfl)
  have i2 := h1.step' av1 hS
  have hlabp : ∀ b, G.lab b = some (.own p) → (G.hand (Zbq t p) G.pv).lab b = some (.own p) := by
   intro b hb
   have : Zbq t p p = p := by
    cases p with
    | t k j => simp only [Zbq]; rw [if_neg (fun e => hpt j (by rw [e]))]
    | b k j => rfl
    | a k j => rfl
   simp [Gho.hand, hb, LP.to, this]
  refine ⟨G.hand (Zbq t p) G.pv, rfl, hlabp, fun b hb => by simp [Gho.hand, hb], fun q => rfl, rfl, i2, av2, hr, ?_⟩
  unfold Zoy at hf
  split at hf
  ·exact ⟨[], ⟨rfl, shared rfl hr hf⟩, by simp [dpOf]⟩
  ·exact ⟨[], ⟨rfl, shared rfl hr hf⟩, by simp [dpOf]⟩
  ·rename_i h0' h1'
   obtain ⟨F, d1, d2, d3⟩ := Ze8 (P := E.P) (G := G) (w := w) av.cells 0 c (a.eval (.tmp t)).cells.toList o' (fun i => .t t i) hf (Z2t hr hsol) (fun i oe hi hlt hw => by
    obtain ⟨u, hu, hoc⟩ := hoo _ oe hi
    have hu' : (Value.flat (a.eval (.tmp t)))[0 + i]? = some u := hu
    rw [hfl, Nat.zero_add] at hu'
    refine ⟨u, hu', ?_⟩
    cases oe with
    | app e => exact hoc.2
    | ex e dp xs => exact hoc.2
    | al q π => cases hw
    | sb q π lo sz n => cases hw) (fun i j e => by cases e; rfl)
   have hdp : dpOf md = true := by unfold dpOf; split <;> simp_all
   refine ⟨F, ?_, fun _ b hb e => ?_⟩
   ·rw [hdp]
    refine ⟨d1, d2, fun b hb => ?_⟩
    obtain ⟨e1, i, _, e2⟩ := d3 b hb
    exact ⟨by simp [Gho.hand, e2, LP.to, Zbq], e1⟩
   ·obtain ⟨_, i, _, e2⟩ := d3 b hb
    rw [e] at e2
    injection e2 with e3
    injection e3 with e4
    exact hpt i e4
end Go.Bv

namespace Go.Bv
open Go.RowKit
variable {E : Env} {P : Program} {n : Nat} {L L' : Look} {a : Act} {w w' : World} {G G' : Gho} {D D' : LP → Prop} {o : Oper} {d : Nat} {h : Hint} {ups : List Upd} {obs : List Prop}
theorem Cont.keep {p : OP} {dp : Bool} {xs : List AV} {us : List Value} {F : List Nat} (h : Cont P G w p dp xs us F) (hX : G'.X = G.X) (hl : ∀ b, G.lab b = some (.own p) → G'.lab b = some (.own p)) : Cont P G' w p dp xs us F := by
 cases dp with
 | true => exact ⟨h.1, h.2.1, fun b hb => ⟨hl b (h.2.2 b hb).1, by rw [hX]; exact (h.2.2 b hb).2⟩⟩
 | false => exact ⟨h.1, by rw [hX]; exact h.2⟩
theorem Zgk {md s : Nat} {tk : List Nat} : ∀ (parts : List (Nat × Operand)) (L : Look) (G : Gho) (k : Nat) (as : List (List AV)) (pre : List Upd) (us : Array Value) (acc : List AV) (F0 : List Nat),
  Zhg md tk d s L k parts = some (as, pre) → Inv E L a w G → Av (DR (.t d)) L → Cont E.P G w (.t d 0) (dpOf md) acc (us.toList.take (k * s)) F0 → us.size = (k + parts.length) * s →
  ∃ us' G' F', Instr.fill (fun i => some (i * s, s)) us (parts.map fun p => (p.1, a.eval p.2)) = some us' ∧ Inv E (L.upds pre) a w G' ∧ Av (DR (.t d)) (L.upds pre) ∧
   Cont E.P G' w (.t d 0) (dpOf md) (acc ++ as.flatten) us'.toList F' ∧ (∀ c ∈ as, c.length = s) ∧ us'.size = us.size ∧ as.length = parts.length
 | [], L, G, k, as, pre, us, acc, F0, hb, hI, hav, hc, hl => by
  simp [Zhg] at hb
  obtain ⟨rfl, rfl⟩ := hb
  refine ⟨us, G, F0, rfl, hI, hav, ?_, by simp, rfl, rfl⟩
  simp only [List.length_nil, Nat.add_zero] at hl
  rw [List.take_of_length_le (by simp; omega)] at hc
  simpa using hc
 | (i, x) :: rest, L, G, k, as, pre, us, acc, F0, hb, hI, hav, hc, hl => by
  simp only [Zhg] at hb
  split at hb
  ·rename_i av o' pre1 hg
   split at hb
   ·rename_i c hcond hf
    simp only [Bool.and_eq_true] at hcond
    obtain ⟨⟨⟨h1, h2⟩, h3⟩, h4⟩ := hcond
    split at hb
    ·rename_i cs pre2 hrest
     cases hb
     have hik : i = k := Nat.eq_of_beq_eq_true h1
     have hs := Nat.eq_of_beq_eq_true h3
     subst hik
     obtain ⟨G1, e1, e2, _, _, _, i1, a1, hrel, F1, c1, c2⟩ := hI.partIn hav (Ztg hI hg) hf h2 (p := .t d 0) (by
      rintro t hne rfl j e
      cases pre1 with
      | nil => exact hne rfl
      | cons q qs =>
       simp only [apart, Z4l, Bool.not_false, Bool.true_and, Bool.not_eq_true'] at h4
       cases e
       exact Z57 h4 rfl)
     have hcells := Z2t hrel h2
     have hcl := hcells.length
     have hmul : (i + ((i, x) :: rest).length) * s = i * s + s + rest.length * s := by
      simp only [List.length_cons]; rw [Nat.add_mul, Nat.add_mul]; omega
     rw [hmul] at hl
     have hfit : i * s + s ≤ us.size := by omega
     have hset : setAll us.toList (i * s) (a.eval x).cells.toList = us.toList.take (i * s) ++ (a.eval x).cells.toList ++ us.toList.drop (i * s + (a.eval x).cells.toList.length) :=
      Z33 _ _ _ (by rw [hcl, hs]; simpa using hfit)
     have hacc := (hc.keep e1 e2).append c1 (fun hdp b hb hb' => by
      rw [hdp] at hc
      exact c2 hdp b hb' (hc.2.2 b hb).1)
     obtain ⟨us', G2, F2, f1, f2, f3, f4, f5, f6, f7⟩ := Zgk rest (L.upds pre1) G1 (i + 1) cs pre2 (setAll us.toList (i * s) (a.eval x).cells.toList).toArray (acc ++ c) (F0 ++ F1) hrest i1 a1 (by
       simp only [List.toList_toArray]
       rw [hset]
       have : (i + 1) * s = (us.toList.take (i * s) ++ (a.eval x).cells.toList).length := by
        rw [List.length_append, List.length_take, hcl, hs, Nat.add_mul]; simp; omega
       rw [this, List.take_left]
       exact hacc) (by simp only [List.size_toArray, Z58]; simp; rw [hl, Nat.add_mul, Nat.add_mul]; omega)
     refine ⟨us', G2, F2, ?_, by rw [Z1t]; exact f2, by rw [Z1t]; exact f3, ?_, ?_, by rw [f6]; simp [Z58], by simp [f7]⟩
     ·rw [List.map_cons, Zox (place := fun i => some (i * s, s)) (off := i * s) (size := s) rfl (by rw [← hs, ← hcl]; simp) hfit]
      exact f1
     ·rw [List.flatten_cons, ← List.append_assoc]; exact f4
     ·intro q hq
      rcases List.mem_cons.1 hq with rfl | hq
      ·rw [Zho hf]; exact hs
      ·exact f5 q hq
    ·cases hb
   ·cases hb
  ·cases hb
theorem Zj6 {md s : Nat} {tk : List Nat} : ∀ {parts : List (Nat × Operand)} {L : Look} {k : Nat} {as : List (List AV)} {pre : List Upd}, Zhg md tk d s L k parts = some (as, pre) → as.length = parts.length
 | [], L, k, as, pre, h => by simp [Zhg] at h; rw [h.1]; rfl
 | (i, x) :: rest, L, k, as, pre, h => by
  simp only [Zhg] at h
  split at h
  ·split at h
   ·split at h
    ·rename_i hr; cases h; simp [Zj6 hr]
    ·cases h
   ·cases h
  ·cases h
def xOf (md n : Nat) : Option Nat := match md with | 0 => some n | _ => some 0
theorem Zis (hI : Inv E L a w G) (hav : Av (DR (.t d)) L) (hlt : d < E.n) {md : Nat} {us : Array Value} {e : TypeId} {s : Nat} {xs : List (List AV)} {F : List Nat} (hs : Z4x E.P e = some s) (hlens : ∀ c ∈ xs, c.length = s)
  (hc : Cont E.P G w (.t d 0) (dpOf md) xs.flatten us.toList F) (hsz : us.size = xs.length * s) (hm : xs.length ≤ maxLen) :
  SR E (L.upd (.t d (.v (Zi4 md e xs).1, (Zi4 md e xs).2))) (a.put (some d) (.slice (some ⟨w.heap.size, 0, none⟩) xs.length xs.length)) (w.alloc (.cells us e)) := by
 let u : Value := .slice (some ⟨w.heap.size, 0, none⟩) xs.length xs.length
 obtain ⟨x0, hx0⟩ : ∃ x0, x0 = xOf md (xs.length * s) := ⟨_, rfl⟩
 have hS : Stp (DR (.t d)) w (w.alloc (.cells us e)) G (G.grow w.heap.size x0 (some (.own (.t d 0))) id G.bx (pvT G.pv d u)) :=
  Stp.alloc hI _ _ _ (fun p _ => rfl) (fun d _ => rfl) (fun p hp => Zj3 hp) (fun i j => rfl) (fun d _ => rfl)
 have h1 := hI.step' hav hS
 have hnew : (w.alloc (.cells us e)).heap[w.heap.size]? = some (.cells us e (0, 0)) := heap_alloc_new w _
 have hrow : (w.alloc (.cells us e)).ownsRow 0 e s u xs.length us.toList := ⟨by simpa using hsz, .inr ⟨w.heap.size, xs.length, us, rfl, Nat.zero_le _, hnew, Nat.le_refl _, hm, hsz, by rw [List.take_of_length_le (by simp; omega)]⟩⟩
 have hbl : blks u = [w.heap.size] := rfl
 have hlab0 : (G.grow w.heap.size x0 (some (.own (.t d 0))) id G.bx (pvT G.pv d u)).lab w.heap.size = some (.own (.t d 0)) := by simp [Gho.grow]
 have hX0 : (G.grow w.heap.size x0 (some (.own (.t d 0))) id G.bx (pvT G.pv d u)).X w.heap.size = x0 := by simp [Gho.grow]
 have hpv : (G.grow w.heap.size x0 (some (.own (.t d 0))) id G.bx (pvT G.pv d u)).pv (.t d 0) = u := Zj4 rfl
 have hOld : ∀ b, b < w.heap.size → (G.grow w.heap.size x0 (some (.own (.t d 0))) id G.bx (pvT G.pv d u)).X b = G.X b ∧ ∀ p, G.lab b = some (.own p) → (G.grow w.heap.size x0 (some (.own (.t d 0))) id G.bx (pvT G.pv d u)).lab b = some (.own p) := by
  intro b hb
  refine ⟨by simp [Gho.grow, show b ≠ w.heap.size by omega], fun p hp => by simp [Gho.grow, show b ≠ w.heap.size by omega, hp, LP.to]⟩
 have held : ∀ dp : Bool, x0 = some 0 → Cont E.P G w (.t d 0) dp xs.flatten us.toList F → Own E.P (G.grow w.heap.size x0 (some (.own (.t d 0))) id G.bx (pvT G.pv d u)) (w.alloc (.cells us e)) (.t d 0) (.ex e dp xs) u := by
  intro dp hx hc
  cases dp with
  | true =>
   obtain ⟨c1, c2, c3⟩ := hc
   have hlt' := DVL.lt _ _ _ c1
   refine ⟨hpv, w.heap.size :: F, ⟨e, s, us.toList, F, .inl rfl, hs, hrow, hlens, DVL.stay _ _ _ c1 (fun b hb => Z7t w _ b (hlt' b hb)), rfl, List.nodup_cons.2 ⟨fun hm => by have := hlt' _ hm; omega, c2⟩, ?_⟩, ?_⟩
   ·intro b hb
    rcases List.mem_cons.1 hb with rfl | hb
    ·rw [hX0, hx]
    ·rw [(hOld b (hlt' b hb)).1]; exact (c3 b hb).2
   ·intro b hb
    rcases List.mem_cons.1 hb with rfl | hb
    ·exact hlab0
    ·exact (hOld b (hlt' b hb)).2 _ (c3 b hb).1
  | false =>
   obtain ⟨rfl, c2⟩ := hc
   refine ⟨hpv, [w.heap.size], ⟨e, s, us.toList, [], .inl rfl, hs, hrow, hlens, ⟨rfl, RelL.mono hS.ext _ _ c2⟩, rfl, by simp, ?_⟩, ?_⟩
   ·intro b hb
    rw [List.mem_singleton.1 hb, hX0, hx]
   ·intro b hb
    rw [List.mem_singleton.1 hb]; exact hlab0
 unfold Zi4
 split
 ·-- others may see it
  obtain ⟨rfl, c2⟩ := hc
  refine ⟨_, h1.setT hlt (sv := .v (.sl xs)) ?_ (fun j oe hj => ?_)⟩
  ·refine Z9u hrow hlens (RelL.mono hS.ext _ _ c2) (fun b hb j hj => ?_)
   simp [u, Value.ownBlock] at hb
   subst hb
   rw [okc, hX0, hx0]
   exact hj
  ·simp at hj
   obtain ⟨rfl, rfl⟩ := hj
   refine ⟨u, rfl, hpv, [w.heap.size], ⟨s, xs.length, us.toList, hs, hrow, rfl, fun b hb => ?_⟩, fun b hb => ?_⟩
   ·rw [List.mem_singleton.1 hb, hX0]; exact hx0
   ·rw [List.mem_singleton.1 hb]; exact hlab0
 ·refine ⟨_, h1.setT hlt (sv := .v .slx) ⟨_, _, _, rfl⟩ (fun j oe hj => ?_)⟩
  simp at hj
  obtain ⟨rfl, rfl⟩ := hj
  exact ⟨u, rfl, held false hx0 hc⟩
 ·rename_i h0 h1'
  have hx : x0 = some 0 := by
   rw [hx0]
   unfold xOf
   split
   ·exact absurd rfl h0
   ·rfl
  have hdp : dpOf md = true := by unfold dpOf; split <;> simp_all
  rw [hdp] at hc
  refine ⟨_, h1.setT hlt (sv := .v .slx) ⟨_, _, _, rfl⟩ (fun j oe hj => ?_)⟩
  simp at hj
  obtain ⟨rfl, rfl⟩ := hj
  exact ⟨u, rfl, held true hx hc⟩
theorem Zed {xs ys : List (List AV)} {ob : List Prop} (h1 : Zpt h xs = (ys, ob)) (hob : ∀ p ∈ ob, p) : ys = xs := by
 unfold Zpt at h1
 split at h1
 ·cases h1; exact (hob (xs = _) (by simp)).symm
 ·cases h1; rfl
theorem Zo1 (hI : Inv E L a w G) (hd : o.dst = some d) (hlt : d < E.n) {T : TypeId} {len : Nat} {parts : Array (Nat × Operand)} (ho : o.op = .buildSlice T len parts) (hop : Zeq E.P L d T len parts.toList h = some (ups, obs)) (hob : ∀ p ∈ obs, p) :
  Does E L o a w ups := by
 unfold Zeq at hop
 split at hop
 ·rename_i e he
  split at hop
  ·rename_i s hs
   split at hop
   ·rename_i as pre hp
    split at hop
    ·rename_i hc
     simp only [Bool.and_eq_true, Nat.ble_eq] at hc
     obtain ⟨⟨⟨h1, h2⟩, h3⟩, h4⟩ := hc
     split at hop
     rename_i xs ob hnew
     split at hop
     rename_i v own hent
     cases hop
     have hxs := Zed hnew hob
     subst hxs
     have hlen : xs.length = len := Nat.eq_of_beq_eq_true h1
     have hT := Ze9 he
     have hspos : 0 < s := Z4a h2
     obtain ⟨i1, a1⟩ := hI.fresh hlt
     have hev : (Zi4 h.md e xs).1 = v ∧ (Zi4 h.md e xs).2 = own := by rw [hent]; exact ⟨rfl, rfl⟩
     obtain ⟨rfl, rfl⟩ := hev
     by_cases hl0 : len = 0
     ·subst hl0
      have has : xs = [] := List.eq_nil_of_length_eq_zero hlen
      subst has
      obtain ⟨us', G2, F2, f1, f2, f3, f4, f5, f6, f7⟩ := Zgk parts.toList _ G 0 [] pre #[] [] [] hp i1 a1 (by cases hm : dpOf h.md <;> simp [Cont] <;> first | exact ⟨rfl, rfl⟩ | rfl) (by
       have hz : parts.toList.length = 0 := (Zj6 hp).symm
       rw [hz]; simp)
      have hpn : parts.toList = [] := List.eq_nil_of_length_eq_zero (by rw [← f7]; rfl)
      refine Zg hd (v := .slice (some ⟨w.heap.size, 0, none⟩) 0 0) (w' := w.alloc (.cells #[] e)) ?_ ?_
      ·have hpe : parts = #[] := by apply Array.ext'; simpa using hpn
       simp [execOp, ho, Instr.buildSlice, Z4g hT, Z3e hs, hpe, Instr.fill, newRow, show Array.range 0 = #[] from rfl]
      ·rw [Z1t, Z1t]
       have hus : us' = #[] := Array.eq_empty_of_size_eq_zero (by rw [f6]; rfl)
       subst hus
       exact Zis f2 f3 hlt (xs := []) hs (by simp) (by simpa using f4) (by simp) (by simp [maxLen])
     ·obtain ⟨zs, hzs⟩ := Option.isSome_iff_exists.1 h4
      obtain ⟨i2, z, hi2, hzz, hcz⟩ := Zdu hzs
      have hpos : ¬ (len * s = 0) := by
       intro e0
       rcases Nat.mul_eq_zero.1 e0 with e0 | e0
       ·exact hl0 e0
       ·omega
      have hpl : xs.length = parts.toList.length := Zj6 hp
      obtain ⟨us', G2, F2, f1, f2, f3, f4, f5, f6, f7⟩ := Zgk parts.toList _ G 0 xs pre ((Array.range (len * s)).map (z.cells[· % z.cells.size]!)) [] [] hp i1 a1 (by cases hm : dpOf h.md <;> simp [Cont] <;> first | exact ⟨rfl, rfl⟩ | rfl) (by simp [← hpl, hlen])
      simp only [Array.size_map, Array.size_range] at f6
      have hbig : ¬ (16777216 < len * s) := by omega
      refine Zg hd (v := .slice (some ⟨w.heap.size, 0, none⟩) xs.length xs.length) (w' := w.alloc (.cells us' e)) ?_ ?_
      ·have hp' : (parts.map fun (x : Nat × Operand) => (x.1, a.eval x.2)).toList = parts.toList.map fun p => (p.1, a.eval p.2) := by simp
       simp only [execOp, ho, Instr.buildSlice, Sem.run_bind, Z4g hT, Z3e hs, Result.andThen_ok, Z9c hi2 hzz]
       rw [if_neg (by simpa using hbig)]
       simp only [if_neg hpos, Sem.run_bind, Z9c hi2 hzz, Result.andThen_ok, Sem.run_pure, hp', f1, newRow]
       simp [hlen]
      ·rw [Z1t, Z1t]
       exact Zis f2 f3 hlt hs f5 (by simpa using f4) (by rw [f6, hlen]) (by
        have : len ≤ len * s := Nat.le_mul_of_pos_right _ hspos
        unfold maxLen; omega)
    ·cases hop
   ·cases hop
  ·cases hop
 ·cases hop
end Go.Bv

namespace Go.Bv
open Go.RowKit
variable {E : Env} {P : Program} {n : Nat} {L L' : Look} {a : Act} {w w' : World} {G G' : Gho} {D D' : LP → Prop} {o : Oper} {d : Nat} {h : Hint} {ups : List Upd} {obs : List Prop}
def Zcx : AV → Bool
 | .int _ _ | .bool _ | .str _ => true
 | _ => false
def appS (L : Look) (e : TypeId) (s : Operand) (h : Hint) : Option (List (List AV) × List Upd) :=
 match s with
 | .const (.slice none 0 0) => some ([], [])
 | .tmp k => match memN k h.tk, L.t k with
  | true, some (.v (.sl xs), [(0, .app e')]) => match Nat.beq e e', h.md with
   | true, 0 => some (xs, [.f (.t k), .t k (.v (.sl xs), [])])
   | true, _ => match xs with
    | [] => some ([], [.f (.t k), .t k (.v (.sl []), [])])
    | _ => none
   | false, _ => none
  | true, some (.v .slx, [(0, .ex e' dp xs)]) => match Nat.beq e e', h.md, dp with
   | true, 1, false => some (xs, [.f (.t k), .t k (.v .slx, [])])
   | true, _ + 2, true => some (xs, [.f (.t k), .t k (.v .slx, [])])
   | _, _, _ => none
  | _, _ => none
 | _ => none
def appY (L : Look) (d : Nat) (y : Operand) (h : Hint) : Option (List (List AV) × List Upd × List Prop) :=
 match y with
 | .tmp q => match memN q h.tk, h.md, L.t q with
  | true, _ + 2, some (.v .slx, [(0, .ex _ true ys)]) => match Nat.beq q d with
   | true => none
   | false => some (ys, [.f (.t q), .t q (.v .slx, [])], [])
  | _, _, _ => match Zd3 L y with
   | some (.plain ys) => match dpOf h.md with
    | true => some (ys, [], [∀ c ∈ ys, c.all Zcx = true])
    | false => some (ys, [], [∀ c ∈ ys, c.all AV.leaf = true])
   | some (.held p π) => match Zg5 L p π h with
    | some (dp, ys, ob) => match dpOf h.md || dp with
     | true => some (ys, [], ob ++ [∀ c ∈ ys, c.all Zcx = true])
     | false => some (ys, [], ob ++ [∀ c ∈ ys, c.all AV.leaf = true])
    | none => none
   | _ => none
 | .const (.slice none 0 0) => some ([], [], [])
 | _ => none
def Zwz (s : Operand) (d : Nat) : Bool := match s with | .tmp k => !Nat.beq k d | _ => true
def Zql (P : Program) (L : Look) (d : Nat) (args : List Operand) (tys : List TypeId) (h : Hint) : Ans :=
 match args, tys with
 | [s, y], [t1, t2] => match Nat.beq t1 t2, Zl2 P t1 with
  | true, some e => match Z4x P e, Zzq P e, Zsv P e with
   | some sz, some by', some zs => match Nat.beq zs.length sz && Nat.blt 0 sz && Nat.ble by' 4096 && Zwz s d && !Nat.beq e anyT with
    | true => match appS (L.upds (fresh d)) e s h with
     | some (xs, p1) => match appY ((L.upds (fresh d)).upds p1) d y h with
      | some (ys, p2, ob) => match Zpt h (xs ++ ys) with
       | (zs', ob2) => match Zi4 h.md e zs' with
        | (v, own) => some (fresh d ++ p1 ++ p2 ++ [.t d (.v v, own)], ob2 ++ ob ++ [xs.length + ys.length ≤ 1073741824 ∧ (∀ c ∈ xs, c.length = sz) ∧ ∀ c ∈ ys, c.length = sz])
      | none => none
     | none => none
    | false => none
   | _, _, _ => none
  | _, _ => none
 | _, _ => none
theorem Inv.takeIn (hI : Inv E L a w G) {D0 : LP → Prop} (hav : Av D0 L) {t : Nat} {y : AV} {own : OwnL} (ht : L.t t = some (.v y, own)) {p : OP} (hpt : ∀ j, p ≠ .t t j) :
  ∃ G', G'.X = G.X ∧ (∀ b, G.lab b = some (.own p) → G'.lab b = some (.own p)) ∧ (∀ b j, G.lab b = some (.own (.t t j)) → G'.lab b = some (.own p)) ∧ (∀ b q, G'.lab b = some q → ∃ q', G.lab b = some q') ∧
   Inv E (L.upds [.f (.t t), .t t (.v y, [])]) a w G' ∧ Av D0 (L.upds [.f (.t t), .t t (.v y, [])]) := by
 obtain ⟨h1, av1⟩ := hI.clear ht
 have av2 : Av D0 (L.upds [.f (.t t), .t t (.v y, [])]) := (hav.f (.t t)).setT trivial (fun j oe hj => by cases hj)
 have hS : Stp (DR (.t t)) w w G (G.hand (Zbq t p) G.pv) := Stp.hand hI (fun q hq => by
  cases q with
  | b i j => rfl
  | t i j => simp only [DR] at hq; simp only [Zbq, if_neg hq]
  | a i j => rfl) (fun q _ => rfl) (fun i j => rfl)
 have i2 := h1.step' av1 hS
 refine ⟨G.hand (Zbq t p) G.pv, rfl, fun b hb => ?_, fun b j hb => by simp [Gho.hand, hb, LP.to, Zbq], fun b q hq => ?_, i2, av2⟩
 ·have : Zbq t p p = p := by
   cases p with
   | t k j => simp only [Zbq]; rw [if_neg (fun e => hpt j (by rw [e]))]
   | b k j => rfl
   | a k j => rfl
  simp [Gho.hand, hb, LP.to, this]
 ·simp only [Gho.hand, Option.map_eq_some_iff] at hq
  obtain ⟨q', hq', _⟩ := hq
  exact ⟨q', hq'⟩
theorem Zuj (hI : Inv E L a w G) (hav : Av (DR (.t d)) L) (hlt : d < E.n) {md sz : Nat} {e : TypeId} (hs : Z4x E.P e = some sz) {xs ys : List (List AV)} {v : Value} {us news : List Value} {F0 F1 : List Nat}
  (hown : w.ownsRow 0 e sz v xs.length us) (hlab : ∀ b ∈ blks v, G.lab b = some (.own (.t d 0))) (hX : ∀ b ∈ blks v, G.X b = xOf md (xs.length * sz))
  (hc0 : Cont E.P G w (.t d 0) (dpOf md) xs.flatten us F0) (hd0 : ∀ b ∈ blks v, b ∉ F0) (hc1 : Cont E.P G w (.t d 0) (dpOf md) ys.flatten news F1) (hd1 : ∀ b ∈ blks v, b ∉ F1) (hd01 : ∀ b ∈ F0, b ∉ F1)
  (hlx : ∀ c ∈ xs, c.length = sz) (hly : ∀ c ∈ ys, c.length = sz)
  {v' : Value} (ho' : w'.ownsRow 0 e sz v' (xs.length + ys.length) (us ++ news)) (hg : w.grownBy w' v.ownBlock)
  (hb : v'.ownBlock = v.ownBlock ∨ ∃ b, v'.ownBlock = some b ∧ w.heap.size ≤ b ∧ w.grownBy w' none) :
  SR E (L.upd (.t d (.v (Zi4 md e (xs ++ ys)).1, (Zi4 md e (xs ++ ys)).2))) (a.put (some d) v') w' := by
 let G' : Gho := { X := fun b => if some b = v'.ownBlock then xOf md ((xs.length + ys.length) * sz) else G.X b, bx := G.bx, lab := fun b => if some b = v'.ownBlock then some (.own (.t d 0)) else G.lab b, pv := pvT G.pv d v' }
 have hbne : ∀ b, b < w.heap.size → v.ownBlock ≠ some b → some b ≠ v'.ownBlock := by
  intro b hlt hne e
  rcases hb with hb | ⟨b', hb', hge, _⟩
  ·exact hne (by rw [← hb, ← e])
  ·rw [hb'] at e; cases e; omega
 have hmul : (xs.length + ys.length) * sz = xs.length * sz + ys.length * sz := Nat.add_mul _ _ _
 have hE : Ext G.X w G'.X w' := by
  refine ⟨?_, ?_⟩
  ·intro b off u hc hk
   have hlt : b < w.heap.size := World.block_lt_of_cell? w ⟨b, off, none⟩ hc
   by_cases hbv : v.ownBlock = some b
   ·have hXb := hX b (Z4f.2 hbv)
    -- only a row that others may see has cells that they lean on
    have hmd : md = 0 := by
     cases md with
     | zero => rfl
     | succ m => simp [okc, hXb, xOf] at hk
    subst hmd
    have hk' : off < xs.length * sz := by simpa [okc, hXb, xOf] using hk
    rcases hb with hb | ⟨b', hb', hge, hgn⟩
    ·rcases hown.2 with ⟨e1, _⟩ | ⟨g, cap, cur, e1, hgb, hheap, hnc, hcm, hcs, htake⟩
     ·rw [e1] at hbv; cases hbv
     ·rw [e1] at hbv
      simp only [Value.ownBlock, Option.some.injEq] at hbv
      subst hbv
      rcases ho'.2 with ⟨e2, _⟩ | ⟨g', cap', cur', e2, hgb', hheap', hnc', hcm', hcs', htake'⟩
      ·rw [e2, e1] at hb; cases hb
      ·rw [e2, e1] at hb
       simp only [Value.ownBlock, Option.some.injEq] at hb
       subst hb
       have hc2 : cur[off]? = some u := by rw [Z4u hheap] at hc; exact hc
       have h5 : us[off]? = some u := by
        rw [← htake, List.getElem?_take, if_pos hk']; simpa using hc2
       have h6 : (us ++ news)[off]? = some u := by
        rw [List.getElem?_append_left (List.getElem?_eq_some_iff.1 h5).1]; exact h5
       rw [← htake', List.getElem?_take] at h6
       split at h6
       ·refine ⟨by rw [Z4u hheap']; simpa using h6, ?_⟩
        simp only [okc, G', e2, Value.ownBlock, if_true, xOf]
        omega
       ·cases h6
    ·have hne : some b ≠ v'.ownBlock := by rw [hb']; intro e; cases e; omega
     have h1 := hgn.cell (a := ⟨b, off, none⟩) hc (by simp)
     exact ⟨h1, by simpa [okc, G', hne] using hk⟩
   ·have h1 := hg.cell (a := ⟨b, off, none⟩) hc (by intro e; exact hbv e.symm)
    exact ⟨h1, by simpa [okc, G', hbne b hlt hbv] using hk⟩
  ·intro r es k hr hk
   have hlt : r < w.heap.size := (Array.getElem?_eq_some_iff.1 hr).1
   have hne : v.ownBlock ≠ some r := by
    intro e
    have := hX r (Z4f.2 e)
    rw [hk] at this
    unfold xOf at this
    split at this <;> cases this
   exact ⟨(hg.block r hlt (fun e => hne e.symm)).trans hr, by simp only [G', if_neg (hbne r hlt hne)]; exact hk⟩
 have hS : Stp (DR (.t d)) w w' G G' := by
  refine ⟨hg.os, hg.tape, hg.output, hg.size, ?_, hE, fun b hb => (hI.new b hb).2, ?_, ?_, fun _ _ => rfl, fun p hp => Zj3 hp, ⟨fun i j => rfl, fun _ _ => rfl⟩⟩
  ·intro b hlt hp
   have hne : v.ownBlock ≠ some b := fun e => hp _ (hlab b (Z4f.2 e)) rfl
   exact ⟨hg.block b hlt (fun e => hne e.symm), by simp only [G', if_neg (hbne b hlt hne)], by simp only [G', if_neg (hbne b hlt hne)]⟩
  ·intro b hge
   have h1 : some b ≠ v'.ownBlock := fun e => by have := (ho'.lt b e.symm).2; omega
   have := hI.new b (by have := hg.size; omega)
   simp only [G', if_neg h1]; exact this
  ·intro b p hp
   by_cases e : some b = v'.ownBlock
   ·rcases hb with hb | ⟨b', hb', hge, _⟩
    ·exact .inl ⟨_, hlab b (Z4f.2 (by rw [← hb, ← e]))⟩
    ·rw [hb'] at e; cases e; exact .inr hge
   ·simp only [G', if_neg e] at hp; exact .inl ⟨p, hp⟩
 have h1 := hI.step' hav hS
 have hlens : ∀ c ∈ xs ++ ys, c.length = sz := fun c hc => (List.mem_append.1 hc).elim (hlx c) (hly c)
 have hl2 : (xs ++ ys).length = xs.length + ys.length := by simp
 have hv0 : (Value.flat v')[0]? = some v' := by rcases ho'.2 with ⟨e2, _⟩ | ⟨g', cap', cur', e2, _⟩ <;> rw [e2] <;> rfl
 have hpv : G'.pv (.t d 0) = v' := Zj4 hv0
 have hXn : ∀ b ∈ blks v', G'.X b = xOf md ((xs.length + ys.length) * sz) ∧ G'.lab b = some (.own (.t d 0)) := by
  intro b hb'
  have := Z4f.1 hb'
  refine ⟨?_, ?_⟩ <;> simp [G', this]
 -- what is below stays
 have hdeep : ∀ b, b < w.heap.size → v.ownBlock ≠ some b → w'.heap[b]? = w.heap[b]? ∧ G'.X b = G.X b ∧ G'.lab b = G.lab b := fun b hlt hne =>
  ⟨hg.block b hlt (fun e => hne e.symm), by simp only [G', if_neg (hbne b hlt hne)], by simp only [G', if_neg (hbne b hlt hne)]⟩
 have held : ∀ dp : Bool, dp = dpOf md → xOf md ((xs.length + ys.length) * sz) = some 0 → Own E.P G' w' (.t d 0) (.ex e dp (xs ++ ys)) v' := by
  intro dp hdp hx
  subst hdp
  have hcc := hc0.append hc1 (fun _ b hb => hd01 b hb)
  rw [← List.flatten_append] at hcc
  cases hdp : dpOf md with
  | true =>
   rw [hdp] at hcc
   obtain ⟨c1, c2, c3⟩ := hcc
   have hlt' := DVL.lt _ _ _ c1
   have hF : ∀ b ∈ F0 ++ F1, v.ownBlock ≠ some b := fun b hb e => (List.mem_append.1 hb).elim (hd0 b (Z4f.2 e)) (hd1 b (Z4f.2 e))
   refine ⟨hpv, blks v' ++ (F0 ++ F1), ⟨e, sz, us ++ news, F0 ++ F1, .inl rfl, hs, by rw [hl2]; exact ho', hlens, DVL.stay _ _ _ c1 (fun b hb => (hdeep b (hlt' b hb) (hF b hb)).1), rfl, ?_, ?_⟩, ?_⟩
   ·refine List.nodup_append.2 ⟨by unfold blks; split <;> simp, c2, fun x hx y hy e => ?_⟩
    subst e
    exact hbne x (hlt' x hy) (hF x hy) (Z4f.1 hx).symm
   ·intro b hb'
    rcases List.mem_append.1 hb' with hb' | hb'
    ·rw [(hXn b hb').1, hx]
    ·rw [(hdeep b (hlt' b hb') (hF b hb')).2.1]; exact (c3 b hb').2
   ·intro b hb'
    rcases List.mem_append.1 hb' with hb' | hb'
    ·exact (hXn b hb').2
    ·rw [(hdeep b (hlt' b hb') (hF b hb')).2.2]; exact (c3 b hb').1
  | false =>
   rw [hdp] at hcc
   obtain ⟨_, c2⟩ := hcc
   refine ⟨hpv, blks v', ⟨e, sz, us ++ news, [], .inl rfl, hs, by rw [hl2]; exact ho', hlens, ⟨rfl, RelL.mono hE _ _ c2⟩, by simp, by unfold blks; split <;> simp, ?_⟩, fun b hb => (hXn b hb).2⟩
   intro b hb; rw [(hXn b hb).1, hx]
 unfold Zi4
 split
 ·have hcc := hc0.append hc1 (fun _ b hb => hd01 b hb)
  rw [← List.flatten_append] at hcc
  obtain ⟨_, c2⟩ := hcc
  refine ⟨_, h1.setT hlt (sv := .v (.sl (xs ++ ys))) ?_ (fun j oe hj => ?_)⟩
  ·refine Z9u (by rw [hl2]; exact ho') hlens (RelL.mono hE _ _ c2) (fun b hb j hj => ?_)
   rw [okc, (hXn b (Z4f.2 hb)).1]
   rw [hl2] at hj
   exact hj
  ·simp at hj
   obtain ⟨rfl, rfl⟩ := hj
   exact ⟨v', hv0, hpv, blks v', ⟨sz, xs.length + ys.length, us ++ news, hs, ho', rfl, fun b hb => (hXn b hb).1⟩, fun b hb => (hXn b hb).2⟩
 ·refine ⟨_, h1.setT hlt (sv := .v .slx) (by rcases ho'.2 with ⟨e2, _⟩ | ⟨g', cap', cur', e2, _⟩ <;> exact ⟨_, _, _, e2⟩) (fun j oe hj => ?_)⟩
  simp at hj
  obtain ⟨rfl, rfl⟩ := hj
  exact ⟨v', hv0, held false rfl rfl⟩
 ·rename_i m0 m1
  have hdp : true = dpOf md := by unfold dpOf; split <;> simp_all
  have hx : xOf md ((xs.length + ys.length) * sz) = some 0 := by
   unfold xOf
   split
   ·exact absurd rfl m0
   ·rfl
  refine ⟨_, h1.setT hlt (sv := .v .slx) (by rcases ho'.2 with ⟨e2, _⟩ | ⟨g', cap', cur', e2, _⟩ <;> exact ⟨_, _, _, e2⟩) (fun j oe hj => ?_)⟩
  simp at hj
  obtain ⟨rfl, rfl⟩ := hj
  exact ⟨v', hv0, held true hdp hx⟩
end Go.Bv

namespace Go.Bv
open Go.RowKit
variable {E : Env} {P : Program} {n : Nat} {L L' : Look} {a : Act} {w w' : World} {G G' : Gho} {D D' : LP → Prop} {o : Oper} {d : Nat} {h : Hint} {ups : List Upd} {obs : List Prop}
theorem Zik {X : Gh} : ∀ {cs : List AV} {us : List Value}, RelL X w cs us → cs.all Zcx = true → DVL P w cs us []
 | [], us, h, _ => ⟨h, rfl⟩
 | c :: cs, us, ⟨u, r, e, h1, h2⟩, hs => by
  simp only [List.all_cons, Bool.and_eq_true] at hs
  refine ⟨u, r, [], [], e, rfl, ?_, Zik h2 hs.2⟩
  cases c with
  | int k m => exact ⟨h1, rfl⟩
  | bool b => exact ⟨h1, rfl⟩
  | str s => exact ⟨h1, rfl⟩
  | _ => cases hs.1
theorem Zo5 {X X' : Gh} : ∀ {cs : List AV} {us : List Value}, RelL X w cs us → cs.all Zcx = true → RelL X' w cs us
 | [], us, h, _ => h
 | c :: cs, us, ⟨u, r, e, h1, h2⟩, hs => by
  simp only [List.all_cons, Bool.and_eq_true] at hs
  refine ⟨u, r, e, ?_, Zo5 h2 hs.2⟩
  cases c with
  | int k m => exact h1
  | bool b => exact h1
  | str s => exact h1
  | _ => cases hs.1
theorem Zo0 {cs : List AV} (h : cs.all Zcx = true) : cs.all AV.leaf = true := by
 rw [List.all_eq_true] at h ⊢
 intro x hx
 have := h x hx
 cases x <;> first | rfl | cases this
theorem Zam {xs : List (List AV)} (h : ∀ c ∈ xs, c.all Zcx = true) : xs.flatten.all Zcx = true := by
 rw [List.all_eq_true]
 intro x hx
 obtain ⟨c, hc, hxc⟩ := List.mem_flatten.1 hx
 exact List.all_eq_true.1 (h c hc) x hxc
theorem Z12p {c : AV} {u : Value} {F : List Nat} (h : DV P w c u F) : u.oneCell' = true := by
 cases c with
 | int k m => rw [h.1]; rfl
 | bool b => rw [h.1]; rfl
 | str s => rw [h.1]; rfl
 | sl xs =>
  obtain ⟨e, sz, us, F', g1, g2, _⟩ := h
  rcases g2.2 with ⟨rfl, _⟩ | ⟨g, cap, cur, rfl, _⟩ <;> rfl
 | undef => exact h.elim
 | agg _ => exact h.elim
 | tup _ => exact h.elim
 | vptr _ => exact h.elim
 | func _ _ => exact h.elim
 | mp _ _ => exact h.elim
 | slx => exact h.elim
 | raw _ => exact h.elim
 | nil _ => exact h.elim
theorem Zwy (hI : Inv E L a w G) (hav : Av (DR (.t d)) L) {e : TypeId} {sz : Nat} (hany : e ≠ anyT) (hs : Z4x E.P e = some sz) {s : Operand} {xs : List (List AV)} {pre : List Upd} (hap : Zwz s d = true) (hg : appS L e s h = some (xs, pre)) (hlx : ∀ c ∈ xs, c.length = sz) :
  ∃ G', G'.X = G.X ∧ Inv E (L.upds pre) a w G' ∧ Av (DR (.t d)) (L.upds pre) ∧ ∃ us F, w.ownsRow 0 e sz (a.eval s) xs.length us ∧ (∀ b ∈ blks (a.eval s), G'.lab b = some (.own (.t d 0)) ∧ G'.X b = xOf h.md (xs.length * sz)) ∧
   Cont E.P G' w (.t d 0) (dpOf h.md) xs.flatten us F ∧ (∀ b ∈ blks (a.eval s), b ∉ F) := by
 have hnil : ∀ {u : Value}, u = .slice none 0 0 → ∃ us F, w.ownsRow 0 e sz u ([] : List (List AV)).length us ∧ (∀ b ∈ blks u, G.lab b = some (.own (.t d 0)) ∧ G.X b = xOf h.md (([] : List (List AV)).length * sz)) ∧ Cont E.P G w (.t d 0) (dpOf h.md) ([] : List (List AV)).flatten us F ∧ (∀ b ∈ blks u, b ∉ F) := by
  rintro u rfl
  refine ⟨[], [], World.ownsRow_nil w 0 e sz, by simp [blks, Value.ownBlock], ?_, by simp⟩
  cases dpOf h.md
  ·exact ⟨rfl, rfl⟩
  ·exact ⟨⟨rfl, rfl⟩, List.nodup_nil, by simp⟩
 unfold appS at hg
 split at hg
 ·cases hg
  exact ⟨G, rfl, hI, hav, hnil rfl⟩
 ·rename_i k
  have hkd : k ≠ d := by simp only [Zwz, Bool.not_eq_true'] at hap; exact Z57 hap
  -- app, with content that others may see
  have fromApp : ∀ (zs : List (List AV)) (e' : TypeId), L.t k = some (.v (.sl zs), [(0, .app e')]) → e = e' → (∀ c ∈ zs, c.length = sz) → (h.md = 0 ∨ zs = []) → pre = [.f (.t k), .t k (.v (.sl zs), [])] → xs = zs →
    ∃ G', G'.X = G.X ∧ Inv E (L.upds pre) a w G' ∧ Av (DR (.t d)) (L.upds pre) ∧ ∃ us F, w.ownsRow 0 e sz (a.eval (.tmp k)) xs.length us ∧ (∀ b ∈ blks (a.eval (.tmp k)), G'.lab b = some (.own (.t d 0)) ∧ G'.X b = xOf h.md (xs.length * sz)) ∧
     Cont E.P G' w (.t d 0) (dpOf h.md) xs.flatten us F ∧ (∀ b ∈ blks (a.eval (.tmp k)), b ∉ F) := by
   rintro zs e' ht rfl hlz hmd rfl rfl
   obtain ⟨G', e1, e2, e3, _, i1, a1⟩ := hI.takeIn hav ht (p := .t d 0) (fun j e => by cases e; exact hkd rfl)
   obtain ⟨_, hr, hoo⟩ := hI.tm k _ _ ht
   obtain ⟨c, hc, hpv, F, ⟨sz', m, us, g1, g2, rfl, g4⟩, hF⟩ := hoo 0 _ List.mem_cons_self
   have hr' : Rel G.X w (.sl xs) (a.eval (.tmp k)) := hr
   obtain ⟨A, len, cap, hu, hlen, hcap, hrE⟩ := hr'
   have hce : c = a.eval (.tmp k) := by
    have hc' : (Value.flat (a.eval (.tmp k)))[0]? = some c := hc
    rw [hu] at hc' ⊢
    simp [Value.flat, Value.cells] at hc'; exact hc'.symm
   subst hce
   have : sz' = sz := by rw [hs] at g1; cases g1; rfl
   subst this
   have hm : m = xs.length := by
    rcases g2.2 with ⟨q1, q2⟩ | ⟨g, cp, cur, q1, _⟩
    ·rw [hu] at q1; cases q1; omega
    ·rw [hu] at q1; cases q1; omega
   subst hm
   have hrx : RelL G.X w xs.flatten us := by
    rcases hrE with hr2 | ⟨b, off, sz3, hA2, hE2⟩
    ·subst hr2
     have : us = [] := List.eq_nil_of_length_eq_zero (by simpa using g2.1)
     rw [this]; rfl
    ·rcases g2.2 with ⟨q1, q2⟩ | ⟨g, cp, cur, q1, hgb, hheap, hnc, hcm, hcs, htake⟩
     ·have : xs = [] := List.eq_nil_of_length_eq_zero q2
      subst this
      have : us = [] := List.eq_nil_of_length_eq_zero (by simpa using g2.1)
      rw [this]; rfl
     ·rw [hu, hA2] at q1
      cases q1
      obtain ⟨us2, k1, k2, k3, _⟩ := Zgh hE2
      have hsz3 : us2.length = us.length := by
       rw [k2, g2.1]
       by_cases hx : xs = []
       ·subst hx; simp
       ·obtain ⟨c, cs, rfl⟩ := List.exists_cons_of_ne_nil hx
        rw [← hE2.1, hlz c (by simp)]
      have : us2 = us := by
       apply List.ext_getElem?
       intro j
       by_cases hj : j < us2.length
       ·have q1 : us2[j]? = some us2[j] := by simp [hj]
        have q2 := k3 j _ q1
        rw [Nat.zero_add, Z4u hheap] at q2
        have hjj : j < xs.length * sz' := by rw [← g2.1, ← hsz3]; exact hj
        rw [← htake, List.getElem?_take, if_pos hjj, q1, ← q2]
        simp
       ·rw [List.getElem?_eq_none (by omega), List.getElem?_eq_none (by omega)]
      rw [← this]; exact k1
   refine ⟨G', e1, i1, a1, us, [], g2, fun b hb => ⟨e3 b 0 (hF b hb), ?_⟩, ?_, by simp⟩
   ·rw [e1, g4 b hb]
    rcases hmd with hmd | hmd
    ·rw [hmd]; rfl
    ·rw [hmd]; unfold xOf; split <;> simp
   ·rcases hmd with hmd | hmd
    ·rw [hmd]; exact ⟨rfl, by rw [e1]; exact hrx⟩
    ·subst hmd
     have : us = [] := List.eq_nil_of_length_eq_zero (by simpa using g2.1)
     subst this
     cases dpOf h.md
     ·exact ⟨rfl, rfl⟩
     ·exact ⟨⟨rfl, rfl⟩, List.nodup_nil, by simp⟩
  have fromEx : ∀ (e' : TypeId) (dp : Bool), L.t k = some (.v .slx, [(0, .ex e' dp xs)]) → e = e' → dp = dpOf h.md → h.md ≠ 0 → pre = [.f (.t k), .t k (.v .slx, [])] →
    ∃ G', G'.X = G.X ∧ Inv E (L.upds pre) a w G' ∧ Av (DR (.t d)) (L.upds pre) ∧ ∃ us F, w.ownsRow 0 e sz (a.eval (.tmp k)) xs.length us ∧ (∀ b ∈ blks (a.eval (.tmp k)), G'.lab b = some (.own (.t d 0)) ∧ G'.X b = xOf h.md (xs.length * sz)) ∧
     Cont E.P G' w (.t d 0) (dpOf h.md) xs.flatten us F ∧ (∀ b ∈ blks (a.eval (.tmp k)), b ∉ F) := by
   rintro e' dp ht rfl hdp hmd rfl
   obtain ⟨G', e1, e2, e3, _, i1, a1⟩ := hI.takeIn hav ht (p := .t d 0) (fun j e => by cases e; exact hkd rfl)
   obtain ⟨_, ⟨A, l2, k2, hu⟩, hoo⟩ := hI.tm k _ _ ht
   have hu' : a.eval (.tmp k) = .slice A l2 k2 := hu
   obtain ⟨c, hc, hpv, F, ⟨e2, sz', us, F', g0, g1, g2, g3, g4, rfl, g6, g7⟩, hF⟩ := hoo 0 _ List.mem_cons_self
   obtain rfl : e2 = e := g0.resolve_right hany
   have hce : c = a.eval (.tmp k) := by
    rw [hu] at hc; rw [hu']
    simp [Value.flat, Value.cells] at hc; exact hc.symm
   subst hce
   have : sz' = sz := by rw [hs] at g1; cases g1; rfl
   subst this
   have hx : ∀ m, xOf h.md m = some 0 := by intro m; unfold xOf; split <;> simp_all
   refine ⟨G', e1, i1, a1, us, F', g2, fun b hb => ⟨e3 b 0 (hF b (by simp [hb])), by rw [e1, hx]; exact g7 b (by simp [hb])⟩, ?_, fun b hb hb' => (List.nodup_append.1 g6).2.2 b hb b hb' rfl⟩
   rw [← hdp]
   cases dp with
   | true => exact ⟨g4, (List.nodup_append.1 g6).2.1, fun b hb => ⟨e3 b 0 (hF b (by simp [hb])), by rw [e1]; exact g7 b (by simp [hb])⟩⟩
   | false => exact ⟨g4.1, by rw [e1]; exact g4.2⟩
  split at hg
  ·rename_i zs e' hk ht
   split at hg
   ·rename_i hee hmd
    cases hg
    exact fromApp _ e' ht (Nat.eq_of_beq_eq_true hee) hlx (.inl hmd) rfl rfl
   ·rename_i hee _
    split at hg
    ·cases hg
     exact fromApp _ e' ht (Nat.eq_of_beq_eq_true hee) hlx (.inr rfl) rfl rfl
    ·cases hg
   ·cases hg
  ·rename_i e' dp zs hk ht
   split at hg
   ·rename_i hee hmd
    cases hg
    exact fromEx e' false ht (Nat.eq_of_beq_eq_true hee) (by rw [hmd]; rfl) (by rw [hmd]; simp) rfl
   ·rename_i m hee hmd
    cases hg
    exact fromEx e' true ht (Nat.eq_of_beq_eq_true hee) (by rw [hmd]; rfl) (by rw [hmd]; simp) rfl
   ·cases hg
  ·cases hg
 ·cases hg
theorem Zwx (hI : Inv E L a w G) (hav : Av (DR (.t d)) L) {sz : Nat} {y : Operand} {ys : List (List AV)} {pre : List Upd} {ob : List Prop} (hg : appY L d y h = some (ys, pre, ob)) (hob : ∀ p ∈ ob, p) (hly : ∀ c ∈ ys, c.length = sz) :
  ∃ G', G'.X = G.X ∧ (∀ b, G.lab b = some (.own (.t d 0)) → G'.lab b = some (.own (.t d 0))) ∧ Inv E (L.upds pre) a w G' ∧ Av (DR (.t d)) (L.upds pre) ∧ ∃ A cap news F, a.eval y = .slice A ys.length cap ∧ news.length = ys.length * sz ∧
   (∀ v ∈ news, v.oneCell' = true) ∧ (ys = [] ∨ ∃ b off, A = some ⟨b, off, none⟩ ∧ Z8c w b off news) ∧ (A = none ∨ ∃ x, A = some x) ∧ Cont E.P G' w (.t d 0) (dpOf h.md) ys.flatten news F ∧ (dpOf h.md = true → ∀ b ∈ F, G.lab b ≠ some (.own (.t d 0))) := by
 -- others may see it
 have plain : ∀ (zs : List (List AV)), (∀ c ∈ zs, c.length = sz) → Rel G.X w (.sl zs) (a.eval y) → (match dpOf h.md with | true => ∀ c ∈ zs, c.all Zcx = true | false => ∀ c ∈ zs, c.all AV.leaf = true) →
   ∃ A cap news F, a.eval y = .slice A zs.length cap ∧ news.length = zs.length * sz ∧ (∀ v ∈ news, v.oneCell' = true) ∧ (zs = [] ∨ ∃ b off, A = some ⟨b, off, none⟩ ∧ Z8c w b off news) ∧ (A = none ∨ ∃ x, A = some x) ∧
    Cont E.P G w (.t d 0) (dpOf h.md) zs.flatten news F ∧ (dpOf h.md = true → ∀ b ∈ F, G.lab b ≠ some (.own (.t d 0))) := by
  intro zs hlz hr hl
  obtain ⟨A, len, cap, hu, rfl, hcap, hr⟩ := hr
  have hA : A = none ∨ ∃ x, A = some x := by cases A <;> simp
  rcases hr with rfl | ⟨b, off, sz2, rfl, hE⟩
  ·refine ⟨A, cap, [], [], hu, by simp, by simp, .inl rfl, hA, ?_, by simp⟩
   cases dpOf h.md
   ·exact ⟨rfl, rfl⟩
   ·exact ⟨⟨rfl, rfl⟩, List.nodup_nil, by simp⟩
  ·obtain ⟨news, n1, n2, n3, _⟩ := Zgh hE
   have hsz : news.length = zs.length * sz := by
    rw [n2]
    cases zs with
    | nil => simp
    | cons c cs => rw [← hE.1, hlz c (by simp)]
   have hone : ∀ v ∈ news, v.oneCell' = true := Z9i n1 (Zks (by
    intro c hc
    cases hm : dpOf h.md with
    | true => rw [hm] at hl; exact Zo0 (hl c hc)
    | false => rw [hm] at hl; exact hl c hc))
   refine ⟨_, cap, news, [], hu, hsz, hone, .inr ⟨b, off, rfl, n3⟩, hA, ?_, by simp⟩
   cases hm : dpOf h.md with
   | true => rw [hm] at hl; exact ⟨Zik n1 (Zam hl), List.nodup_nil, by simp⟩
   | false => exact ⟨rfl, n1⟩
 unfold appY at hg
 split at hg
 ·rename_i q
  split at hg
  ·-- it is taken
   rename_i m e zs hk hmd ht
   split at hg
   ·cases hg
   ·rename_i hqd
    cases hg
    have hqd := Z57 hqd
    obtain ⟨G', e1, e2, e3, _, i1, a1⟩ := hI.takeIn hav ht (p := .t d 0) (fun j e => by cases e; exact hqd rfl)
    obtain ⟨_, ⟨A, l2, k2, hu⟩, hoo⟩ := hI.tm q _ _ ht
    have hu' : a.eval (.tmp q) = .slice A l2 k2 := hu
    obtain ⟨c, hc, hpv, F, ⟨e9, sz', us, F', _, g1, g2, g3, g4, rfl, g6, g7⟩, hF⟩ := hoo 0 _ List.mem_cons_self
    have hce : c = a.eval (.tmp q) := by
     rw [hu] at hc; rw [hu']
     simp [Value.flat, Value.cells] at hc; exact hc.symm
    subst hce
    have hdp : dpOf h.md = true := by rw [hmd]; rfl
    have hl2 : l2 = ys.length := by
     rcases g2.2 with ⟨q1, q2⟩ | ⟨g, cp, cur, q1, _⟩
     ·rw [hu'] at q1; cases q1; omega
     ·rw [hu'] at q1; cases q1; rfl
    subst hl2
    have hlen : us.length = ys.length * sz := by
     rw [g2.1]
     cases ys with
     | nil => simp
     | cons c cs => rw [← g3 c (by simp), hly c (by simp)]
    have hone : ∀ v ∈ us, v.oneCell' = true := by
     intro v hv
     obtain ⟨j, hj⟩ := List.mem_iff_getElem?.1 hv
     have hjl := (List.getElem?_eq_some_iff.1 hj).1
     have hlf : j < ys.flatten.length := by rw [← g4.length]; exact hjl
     obtain ⟨u, F2, q1, q2, _⟩ := DVL.get j g4 (List.getElem?_eq_getElem hlf)
     rw [hj] at q1; cases q1
     exact Z12p q2
    refine ⟨G', e1, e2, i1, a1, A, k2, us, F', hu', hlen, hone, ?_, ?_, ?_, ?_⟩
    ·rcases g2.2 with ⟨q1, q2⟩ | ⟨g, cp, cur, q1, _⟩
     ·exact .inl (List.eq_nil_of_length_eq_zero q2)
     ·rw [hu'] at q1; cases q1
      refine .inr ⟨g, 0, rfl, fun j u hj => ?_⟩
      have := g2.cells (g := g) (by rw [hu']; rfl) j u hj
      rwa [add_lit] at this
    ·cases A <;> simp
    ·rw [hdp]; exact ⟨g4, (List.nodup_append.1 g6).2.1, fun b hb => ⟨e3 b 0 (hF b (by simp [hb])), by rw [e1]; exact g7 b (by simp [hb])⟩⟩
    ·intro _ b hb e
     rw [hF b (by simp [hb])] at e
     cases e
     exact hqd rfl
  ·split at hg
   ·rename_i zs hx
    split at hg
    ·rename_i hmd
     cases hg
     cases Z2n hI hx with
     | plain hr => exact ⟨G, rfl, fun b h => h, hI, hav, plain ys hly hr (by rw [hmd]; exact hob _ (by simp))⟩
    ·rename_i hmd
     cases hg
     cases Z2n hI hx with
     | plain hr => exact ⟨G, rfl, fun b h => h, hI, hav, plain ys hly hr (by rw [hmd]; exact hob _ (by simp))⟩
   ·rename_i p π hx
    split at hg
    ·rename_i dp zs ob' hc
     have held : ∀ (hob' : ∀ q ∈ ob', q) (hys : ys = zs), (match dpOf h.md || dp with | true => ∀ c ∈ zs, c.all Zcx = true | false => ∀ c ∈ zs, c.all AV.leaf = true) → ∃ A cap news F, a.eval (.tmp q) = .slice A zs.length cap ∧ news.length = zs.length * sz ∧ (∀ v ∈ news, v.oneCell' = true) ∧ (zs = [] ∨ ∃ b off, A = some ⟨b, off, none⟩ ∧ Z8c w b off news) ∧ (A = none ∨ ∃ x, A = some x) ∧
       Cont E.P G w (.t d 0) (dpOf h.md) zs.flatten news F ∧ (dpOf h.md = true → ∀ b ∈ F, G.lab b ≠ some (.own (.t d 0))) := by
      intro hob' hys hl
      subst hys
      cases Z2n hI hx with
      | held hat hs =>
       have hh := Z8y hI hc hob' hat
       obtain ⟨e, sz', us, F, r1, r2, r3, r4, r5⟩ := hh.row
       obtain ⟨A, l2, k2, hu⟩ := hs
       have hl2 : l2 = ys.length := by
        rcases r2.2 with ⟨q1, q2⟩ | ⟨g, cp, cur, q1, _⟩
        ·rw [hu] at q1; cases q1; omega
        ·rw [hu] at q1; cases q1; rfl
       subst hl2
       have hlen : us.length = ys.length * sz := by
        rw [r2.1]
        cases ys with
        | nil => simp
        | cons c cs => rw [← r3 c (by simp), hly c (by simp)]
       have hcells : ys = [] ∨ ∃ b off, A = some ⟨b, off, none⟩ ∧ Z8c w b off us := by
        rcases r2.2 with ⟨q1, q2⟩ | ⟨g, cp, cur, q1, _⟩
        ·exact .inl (List.eq_nil_of_length_eq_zero q2)
        ·rw [hu] at q1; cases q1
         refine .inr ⟨g, 0, rfl, fun j u hj => ?_⟩
         have := r2.cells (g := g) (by rw [hu]; rfl) j u hj
         rwa [add_lit] at this
       have hrel : RelL (fun _ => none) w ys.flatten us ∨ (dp = false ∧ RelL G.X w ys.flatten us) := by
        cases dp with
        | true => exact .inl (DVL.rel (X := fun _ => none) _ _ _ r4 (fun _ _ => rfl))
        | false => exact .inr ⟨rfl, r4⟩
       have hone : ∀ v ∈ us, v.oneCell' = true := by
        have hleaf : ys.flatten.all AV.leaf = true := Zks (by
         intro c hc
         cases hm : (dpOf h.md || dp) with
         | true => rw [hm] at hl; exact Zo0 (hl c hc)
         | false => rw [hm] at hl; exact hl c hc)
        rcases hrel with hr | ⟨_, hr⟩
        ·exact Z9i hr hleaf
        ·exact Z9i hr hleaf
       refine ⟨A, k2, us, [], hu, hlen, hone, hcells, by cases A <;> simp, ?_, by simp⟩
       cases hm : dpOf h.md with
       | true =>
        rw [hm] at hl
        simp only [Bool.true_or] at hl
        rcases hrel with hr | ⟨_, hr⟩
        ·exact ⟨Zik hr (Zam hl), List.nodup_nil, by simp⟩
        ·exact ⟨Zik hr (Zam hl), List.nodup_nil, by simp⟩
       | false =>
        refine ⟨rfl, ?_⟩
        rcases hrel with hr | ⟨_, hr⟩
        ·cases dp with
         | true => rw [hm] at hl; exact Zo5 hr (Zam hl)
         | false => exact r4
        ·exact hr
     split at hg
     ·rename_i hb
      cases hg
      exact ⟨G, rfl, fun b h => h, hI, hav, held (fun q hq => hob q (by simp [hq])) rfl (by rw [hb]; exact hob _ (by simp))⟩
     ·rename_i hb
      cases hg
      exact ⟨G, rfl, fun b h => h, hI, hav, held (fun q hq => hob q (by simp [hq])) rfl (by rw [hb]; exact hob _ (by simp))⟩
    ·cases hg
   ·cases hg
 ·cases hg
  exact ⟨G, rfl, fun b h => h, hI, hav, plain [] (by simp) ⟨none, 0, 0, rfl, rfl, Nat.le_refl _, .inl rfl⟩ (by split <;> simp)⟩
 ·cases hg
end Go.Bv

namespace Go.Bv
open Go.RowKit
variable {E : Env} {P : Program} {n : Nat} {L L' : Look} {a : Act} {w w' : World} {G G' : Gho} {D D' : LP → Prop} {o : Oper} {d : Nat} {h : Hint} {ups : List Upd} {obs : List Prop}
theorem Zxm (hI : Inv E L a w G) (hd : o.dst = some d) (hlt : d < E.n) {c : Call} (ho : o.op = .call c) (hg : c.callee = .builtin .append) (hop : Zql E.P L d c.args.toList c.argTypes.toList h = some (ups, obs)) (hob : ∀ p ∈ obs, p) : Does E L o a w ups := by
 unfold Zql at hop
 split at hop
 ·rename_i s y t1 t2 hargs htys
  split at hop
  ·rename_i e ht12 he
   have ht12 : t1 = t2 := Nat.eq_of_beq_eq_true ht12
   subst ht12
   split at hop
   ·rename_i sz by' zs hs hby hz
    split at hop
    ·rename_i hc1
     simp only [Bool.and_eq_true, Nat.ble_eq] at hc1
     rw [Bool.not_eq_true'] at hc1
     obtain ⟨⟨⟨⟨hz1, hz2⟩, hz3⟩, hap⟩, hany⟩ := hc1
     have hany := Z57 hany
     split at hop
     ·rename_i xs p1 hS
      split at hop
      ·rename_i ys p2 ob hY
       split at hop
       rename_i zs' ob2 hnew
       split at hop
       rename_i v own hent
       cases hop
       obtain ⟨q1, q2, q3⟩ := hob _ (List.mem_append_right _ (List.mem_singleton.2 rfl))
       have hzs' := Zed hnew (fun p hp => hob p (by simp [hp]))
       subst hzs'
       have hev : (Zi4 h.md e (xs ++ ys)).1 = v ∧ (Zi4 h.md e (xs ++ ys)).2 = own := by rw [hent]; exact ⟨rfl, rfl⟩
       obtain ⟨rfl, rfl⟩ := hev
       have hT := Ze9 he
       obtain ⟨i, z, hi, hzz, hcz⟩ := Zdu hz
       have hsz : i.size = sz := by simp [Z4x, hi] at hs; exact hs
       have hbi : i.bytes = by' := by simp [Zzq, hi] at hby; exact hby
       have hzr : RelL G.X w zs z.cells.toList := Z91 hcz
       have hzs : z.cells.size = sz := by rw [← Nat.eq_of_beq_eq_true hz1, ← hzr.length]; simp
       have hpos : 0 < sz := Z4a hz2
       have hargs' : c.args.map a.eval = #[a.eval s, a.eval y] := by
        apply Array.ext'; simp [hargs]
       have htys' : c.argTypes = #[t1, t1] := by apply Array.ext'; simpa using htys
       obtain ⟨i1, a1⟩ := hI.fresh hlt
       obtain ⟨G1, e1, i2, a2, us, F0, k1, k2, k3, k4⟩ := Zwy i1 a1 hany hs hap hS q2
       obtain ⟨G2, e2, e3, i3, a3, A, cap, news, F1, hyu, hnl, hone, hcells, _, c1, c2⟩ := Zwx i2 a2 hY (fun p hp => hob p (by simp [hp])) q3
       have hk2 : ∀ b ∈ blks (a.eval s), G2.lab b = some (.own (.t d 0)) ∧ G2.X b = xOf h.md (xs.length * sz) := fun b hb => ⟨e3 b (k2 b hb).1, by rw [e2]; exact (k2 b hb).2⟩
       have hk3 := k3.keep e2 e3
       have hd1 : ∀ b ∈ blks (a.eval s), b ∉ F1 := by
        intro b hb hb'
        cases hdp : dpOf h.md with
        | true => exact c2 hdp b hb' (k2 b hb).1
        | false => rw [hdp] at c1; rw [c1.1] at hb'; cases hb'
       have hd01 : ∀ b ∈ F0, b ∉ F1 := by
        intro b hb hb'
        cases hdp : dpOf h.md with
        | true => rw [hdp] at k3; exact c2 hdp b hb' (k3.2.2 b hb).1
        | false => rw [hdp] at c1; rw [c1.1] at hb'; cases hb'
       have hmax : xs.length + ys.length ≤ maxLen := by unfold maxLen; omega
       have hbytes : (xs.length + ys.length) * by' ≤ 140737488355328 := by
        have : (xs.length + ys.length) * by' ≤ 1073741824 * 4096 := Nat.mul_le_mul q1 (by omega)
        omega
       -- the run
       have run : ∃ v' w', (Builtin.append_ #[t1, t1] o.type #[a.eval s, a.eval y]).run E.P w = .ok v' w' ∧ w'.ownsRow 0 e sz v' (xs.length + ys.length) (us ++ news) ∧ w.grownBy w' (a.eval s).ownBlock ∧
         (v'.ownBlock = (a.eval s).ownBlock ∨ ∃ b, v'.ownBlock = some b ∧ w.heap.size ≤ b ∧ w.grownBy w' none) := by
        rw [hyu]
        cases A with
        | none =>
         have hy0 : ys = [] := by
          rcases hcells with h | ⟨b, off, h, _⟩
          ·exact h
          ·cases h
         subst hy0
         have hn0 : news = [] := List.eq_nil_of_length_eq_zero (by simpa using hnl)
         subst hn0
         refine ⟨a.eval s, w, ?_, by simpa using k1, ⟨rfl, rfl, rfl, Nat.le_refl _, fun _ _ _ => rfl⟩, .inl rfl⟩
         rcases k1.2 with ⟨e1, e2⟩ | ⟨g, cp, cur, e1, _, _, hnc, _⟩
         ·rw [e1]; simp [Builtin.append_, run_underlying hT, sizeOf, typeInfo, hi, Builtin.lenOf, Builtin.firstCells]
         ·rw [e1]; simp [Builtin.append_, run_underlying hT, sizeOf, typeInfo, hi, Builtin.lenOf, Builtin.firstCells, hnc, storeCells]
        | some x =>
         refine Zmm (P := E.P) (w := w) 0 t1 o.type e i z sz by' hT hi hzz hsz hbi hzs hpos (a.eval s) xs.length us k1 x ys.length cap news hnl ?_ hone hmax hbytes (Nat.zero_le _)
         rcases hcells with h | ⟨b, off, h, hc⟩
         ·subst h
          have hn0 : news = [] := List.eq_nil_of_length_eq_zero (by simpa using hnl)
          subst hn0
          intro j u hj; simp at hj
         ·cases h
          intro j u hj
          rw [add_lit]; exact hc j u hj
       obtain ⟨v', w', hrun, ho', hgr, hb⟩ := run
       refine Zg hd (v := v') (w' := w') ?_ ?_
       ·simp [execOp, ho, resolve, hg, invoke, builtin, hargs', htys', hrun]
       ·rw [Z1t, Z1t, Z1t]
        exact Zuj i3 a3 hlt hs k1 (fun b hb => (hk2 b hb).1) (fun b hb => (hk2 b hb).2) hk3 k4 c1 hd1 hd01 q2 q3 ho' hgr hb
      ·cases hop
     ·cases hop
    ·cases hop
   ·cases hop
  ·cases hop
 ·cases hop
def insL (x : Operand) (T : TypeId) (P : Program) (own : OwnL) : OwnL :=
 match Zcv x with
 | true => (match Zl2 P T with | some e => (match (Z4x P e).isSome with | true => [(0, .app e)] | false => []) | none => [])
 | false => own
def putO (L : Look) (p : OP) (x : OE) : Option (List Upd) :=
 match p with
 | .t s j => match L.t s with | some (sv, own) => some [.t s (sv, setO own j x)] | none => none
 | .b d j => match L.b d with | some (.cells cs own) => some [.b d (.cells cs (setO own j x))] | _ => none
 | .a i j => match L.g i with | some own => some [.g i (setO own j x)] | none => none
def Z6l : OP → Ref
 | .t s _ => .t s
 | .b d _ => .b d
 | .a i _ => .a i
def Zzr (pre : List Upd) (x : Operand) (own : OwnL) : Bool :=
 match pre with
 | [] => true
 | _ => match x with | .tmp t => !Z4l (.t t) own | _ => true
def Zx0 (pre : List Upd) (x : Operand) (p : OP) : Bool :=
 match pre with
 | [] => true
 | _ => match x with | .tmp t => !p.inn (.t t) | _ => true
def Zs2 (P : Program) (L : Look) (T : TypeId) (x y : Operand) (h : Hint) : Ans :=
 match Z4x P T, ev L x, grab L y h.tk with
 | some s, some (.ptr k off, _), some (.v a, own, pre) => match (L.upds pre).b k with
  | some (.cells cs own0) => match fitS (Zmi h.op y) a s && Nat.ble (off + s) cs.length, Z4l (.b k) own0 || Z4l (.b k) (insL y T P own) || !Zzr pre y own0 with
   | true, false => some (pre ++ [.f (.b k), .b k (.cells (setAll cs off (a.cellsH (Zmi h.op y))) (Zbz off s own0 ++ Ziv off (insL y T P own)))], obH (Zmi h.op y) a)
   | _, _ => none
  | _ => none
 | some s, some (.el p [] i sz off, _), some (.v a, own, pre) => match Z6c (L.upds pre) p with
  | some (.ex e dp xs) => match a.solid && a.cells.all AV.leaf && Nat.beq a.cells.length s && Zx0 pre y p, (match dp with | true => Zbr (insL y T P own) 0 a.cells | false => Zna (insL y T P own) a.cells) with
   | true, some c => match Zpt h (xs.modify i fun r => setAll r off c) with
    | (zs, ob) => match putO ((L.upds pre).upd (.f (.o p))) p (.ex e dp zs) with
     | some us => some (pre ++ [.f (.o p)] ++ us, ob ++ [∃ r, xs[i]? = some r ∧ r.length = sz ∧ off + s ≤ r.length])
     | none => none
   | _, _ => none
  | _ => none
 | _, _, _ => none
end Go.Bv

namespace Go.Bv
open Go.RowKit
variable {E : Env} {P : Program} {n : Nat} {L L' : Look} {a : Act} {w w' : World} {G G' : Gho} {D D' : LP → Prop} {o : Oper} {d : Nat} {h : Hint} {ups : List Upd} {obs : List Prop}
structure Wrote (w w' : World) (b : Nat) : Prop where
 os : w'.os = w.os
 tape : w'.tape = w.tape
 output : w'.output = w.output
 size : w'.heap.size = w.heap.size
 block : ∀ k, k ≠ b → w'.heap[k]? = w.heap[k]?
theorem Wrote.setRow (w : World) (g : Nat) (c : Array Value) : Wrote w (w.setRow g c) g :=
 ⟨rfl, rfl, rfl, by simp [World.setRow], fun k hk => setRow_other w g k c hk⟩
theorem Wrote.stp {b : Nat} (hW : Wrote w w' b) (hI : Inv E L a w G) {l : LP} (hl : G.lab b = some l) (hD : D l) (hX : G.X b = some 0) : Stp D w w' G G := by
 refine ⟨hW.os, hW.tape, hW.output, Nat.le_of_eq hW.size.symm, fun k _ hk => ⟨hW.block k (fun e => ?_), rfl, rfl⟩, ⟨?_, ?_⟩, fun b hb => (hI.new b hb).2, fun b hb => hI.new b (by rw [← hW.size]; exact hb), fun b p hp => .inl ⟨p, hp⟩, fun _ _ => rfl, fun _ _ => rfl, ⟨fun _ _ => rfl, fun _ _ => rfl⟩⟩
 ·subst e; exact hk l hl hD
 ·intro k o u hc hk
  have hne : k ≠ b := by intro e; subst e; simp [okc, hX] at hk
  exact ⟨(Zbs (hW.block k hne) o).trans hc, hk⟩
 ·intro k es q hc hk
  have hne : k ≠ b := by intro e; subst e; rw [hX] at hk; cases hk
  exact ⟨(hW.block k hne).trans hc, hk⟩
def pvBr (pv : OP → Value) (k off : Nat) (us : List Value) : OP → Value
 | .b i j => if i = k ∧ off ≤ j ∧ j < off + us.length then (us[j - off]?).getD undef else pv (.b i j)
 | p => pv p
theorem okE_box' {p : OP} {oe : OE} {k : Nat} : okE (fun q => q = .box k) p oe := by
 cases oe with
 | al q π => exact .inr fun e => by cases e
 | app e => intro e; cases e
 | ex e dp xs => intro e; cases e
 | sb q π lo sz n => intro e; cases e
theorem Av.box {L : Look} {k : Nat} : Av (fun q => q = .box k) (L.noB k) := by
 refine ⟨fun s sv own hs => ⟨?_, fun j oe hj => okE_box'⟩, fun i x hi => ⟨?_, ?_⟩, fun i own hi j oe hj => okE_box'⟩
 ·cases sv <;> first | trivial | (intro e; cases e)
 ·have hne : i ≠ k := by intro e; subst e; simp [Look.noB] at hi
  rintro (e | e)
  ·cases e; exact hne rfl
  ·cases e
 ·cases x with
  | cells cs own => exact fun j oe hj => okE_box'
  | map ks vs => trivial
  | part m cs => trivial
  | ref q => exact fun e => by cases e
theorem Zv7 {p : OP} {oe : OE} {k : Nat} : okE (fun q => q = .box k) p oe := by
 cases oe with
 | al q π => exact .inr fun e => by cases e
 | app e => intro e; cases e
 | ex e dp xs => intro e; cases e
 | sb q π lo sz n => intro e; cases e
theorem Zzu {k : Nat} {x y : BX} : ((L.upd (.b k x)).noB k).upd (.b k y) = L.upd (.b k y) := by
 simp only [Look.noB, Look.upd]
 congr 1
 funext i
 by_cases e : i = k <;> simp [e]
theorem Inv.storeBox (hI : Inv E L a w G) {D : LP → Prop} {k : Nat} {cs : List AV} {own0 : OwnL} (hb : L.b k = some (.cells cs own0)) {new : List AV} {vs : List Value} {off : Nat} (hrel : RelL G.X w new vs)
  (hfit : off + new.length ≤ cs.length) (hone : ∀ v ∈ vs, v.oneCell' = true) (own : OwnL) (hn0 : Z4l (.b k) own0 = false) (hD : Av D L) (hD2 : ∀ j oe, (j, oe) ∈ own0 → okE D (.b k j) oe)
  {ρ : OP → OP} (hρ : ∀ p, ¬ D (.own p) → ρ p = p)
  (ho : ∀ j oe, (j, oe) ∈ own → ∃ c, vs[j]? = some c ∧ ((oe.owner = true ∧ ((∃ p, ρ p = .b k (off + j) ∧ Own E.P G w p oe c) ∨ ∃ e, oe = .app e ∧ c = .slice none 0 0 ∧ (Z4x E.P e).isSome = true)) ∨ (oe.owner = false ∧ okE D (.b k (off + j)) oe ∧ okE (DR (.b k)) (.b k (off + j)) oe ∧ ∀ q, Own E.P G w q oe c))) :
  ∃ w', (storeCells ⟨G.bx k, off, none⟩ vs).run E.P w = .ok () w' ∧ SR E (L.upds [.f (.b k), .b k (.cells (setAll cs off new) (Zbz off new.length own0 ++ Ziv off own))]) a w' := by
 obtain ⟨hX, hlab, us, e, hheap, hok⟩ := hI.bo k _ hb
 have hl := hrel.length
 have hl2 := hok.rel.length
 have hl3 : us.size = cs.length := by rw [← hl2]; simp
 have hst := run_storeCells_at E.P (G.bx k) off e vs 0 us w hheap (by omega) hone
 have hset : (us.toList.take (off + 0) ++ vs ++ us.toList.drop (off + 0 + vs.length)) = setAll us.toList off vs := by
  rw [Z33 _ _ _ (by simp; omega)]; simp
 rw [hset] at hst
 refine ⟨_, hst, ?_⟩
 have hW : Wrote w (w.setRow (G.bx k) (setAll us.toList off vs).toArray) (G.bx k) := Wrote.setRow _ _ _
 have hheap' := setRow_heap w (G.bx k) us (setAll us.toList off vs).toArray e (0, 0) hheap
 -- what lay there is held no more; what comes is held there
 obtain ⟨i1, a1⟩ := hI.clearBr (off := off) (s := new.length) hb hn0
 have aD : Av D ((L.upd (.f (.b k))).upd (.b k (.cells cs (Zbz off new.length own0)))) := by
  refine (hD.f (.b k)).setB ?_ (fun j oe hj => hD2 j oe (Z6r hj).1)
  exact (hD.b k _ hb).1
 have hS : Stp (fun q => DBr k off new.length q ∨ D q) w w G (G.hand ρ (pvBr G.pv k off vs)) := Stp.hand hI
  (fun p hp => by simp only [not_or] at hp; exact hρ p hp.2)
  (fun p hp => by
   simp only [not_or] at hp
   cases p with
   | t i j => rfl
   | b i j => simp only [DBr] at hp; simp only [pvBr, hl, if_neg hp.1]
   | a i j => rfl) (fun i j => rfl)
 have i2 := i1.step' (a1.or aD) hS
 -- the cells
 have hpv : ∀ j c, vs[j]? = some c → pvBr G.pv k off vs (.b k (off + j)) = c := by
  intro j c hc
  have hj := (List.getElem?_eq_some_iff.1 hc).1
  rw [pvBr, if_pos ⟨rfl, by omega, by omega⟩, Nat.add_sub_cancel_left, hc]
  rfl
 have hnew : ∀ j oe, (j, oe) ∈ own → ∃ c, vs[j]? = some c ∧ Own E.P (G.hand ρ (pvBr G.pv k off vs)) w (.b k (off + j)) oe c := by
  intro j oe hj
  obtain ⟨c, hc, hoc⟩ := ho j oe hj
  refine ⟨c, hc, ?_⟩
  rcases hoc with ⟨hw, hoc⟩ | ⟨hw, hk, hk2, hoc⟩
  ·rcases hoc with ⟨p, hp, hoc⟩ | ⟨e', rfl, rfl, he⟩
   ·exact hoc.hand hw hp (hpv j c hc)
   ·exact Zms he (hpv j _ hc)
  ·exact hS.own ((hk2.mono (fun q hq => Zku hq)).or hk) (hoc _)
 -- the write
 have i3 := i2.less (Sub.noB _ k)
 have hS2 : Stp (fun q => q = .box k) w (w.setRow (G.bx k) (setAll us.toList off vs).toArray) (G.hand ρ (pvBr G.pv k off vs)) (G.hand ρ (pvBr G.pv k off vs)) :=
  hW.stp i3 (l := .box k) (by simp [Gho.hand, hlab, LP.to]) rfl hX
 have i4 := i3.step' Av.box hS2
 have h5 := i4.setB (d := k) (x := .cells (setAll cs off new) (Zbz off new.length own0 ++ Ziv off own)) hX (by simp [Gho.hand, hlab, LP.to]) ⟨(setAll us.toList off vs).toArray, e, hheap', ?_, fun j oe hj => ?_⟩
 ·rw [Zzu] at h5
  exact ⟨_, h5⟩
 ·have := RelL.setAll off hrel hok.rel
  simpa using RelL.mono hS2.ext _ _ this
 ·have hget : ∀ c, us[j]? = some c → ¬ (off ≤ j ∧ j < off + new.length) → (setAll us.toList off vs)[j]? = some c := by
   intro c hc hn
   rw [Z33 _ _ _ (by simp; omega)]
   have hust : us.toList.length = us.size := by simp
   by_cases hjo : j < off
   ·rw [List.append_assoc, List.getElem?_append_left (by rw [List.length_take]; simp; omega), List.getElem?_take, if_pos hjo]; simpa using hc
   ·rw [List.getElem?_append_right (by rw [List.length_append, List.length_take, hust]; omega), List.getElem?_drop, List.length_append, List.length_take]
    have hmin : min off us.toList.length = off := Nat.min_eq_left (by simp; omega)
    rw [hmin, show off + vs.length + (j - (off + vs.length)) = j by omega]
    simpa using hc
  rcases List.mem_append.1 hj with hj | hj
  ·obtain ⟨hj1, hj2⟩ := Z6r hj
   obtain ⟨_, _, us2, e2, h6, h7⟩ := i2.bo k (.cells cs (Zbz off new.length own0)) (by simp [Look.upd])
   obtain ⟨c, hc, hoc⟩ := h7.own j oe hj
   have : us2 = us := by
    have h6' : w.heap[G.bx k]? = some (.cells us2 e2 (0, 0)) := h6
    rw [hheap] at h6'; cases h6'; rfl
   subst this
   exact ⟨c, by simpa using hget c hc hj2, hS2.own Zv7 hoc⟩
  ·obtain ⟨q, rfl, hq⟩ := Ze6 hj
   obtain ⟨c, hc, hoc⟩ := hnew q oe hq
   have hql := (List.getElem?_eq_some_iff.1 hc).1
   refine ⟨c, ?_, hS2.own Zv7 hoc⟩
   simp only [List.getElem?_toArray]
   rw [Z33 _ _ _ (by simp; omega), List.append_assoc, List.getElem?_append_right (by rw [List.length_take]; omega), List.length_take]
   have hmin : min off us.toList.length = off := Nat.min_eq_left (by simp; omega)
   rw [hmin, Nat.add_sub_cancel_left, List.getElem?_append_left hql]; exact hc
end Go.Bv

namespace Go.Bv
open Go.RowKit
variable {E : Env} {P : Program} {n : Nat} {L L' : Look} {a : Act} {w w' : World} {G G' : Gho} {D D' : LP → Prop} {o : Oper} {d : Nat} {h : Hint} {ups : List Upd} {obs : List Prop}
theorem Zg3 (p : OP) : DR (Z6l p) (.own p) := by cases p <;> rfl
theorem Zjh {p q : OP} {oe : OE} (h : oe.refs (Z6l p) = false) (hq : oe.owner = true → q ≠ p) : okE (fun x => x = .own p) q oe := by
 cases oe with
 | app e => intro he; cases he; exact hq rfl rfl
 | ex e dp xs => intro he; cases he; exact hq rfl rfl
 | al r π => exact Zv8 h fun he => by cases he; exact Zg3 p
 | sb r π lo sz n => intro he; cases he; simp [OE.refs, (Zav (Zg3 p)).1, (Zav (Zg3 p)).2] at h
theorem Zv6 {p : OP} {sv : SV} (h : sv.refs (Z6l p) = false) : okS (fun x => x = .own p) sv := by
 cases sv with
 | v x => trivial
 | ptr d off => intro he; cases he
 | mp d => intro he; cases he
 | el r π i sz off => intro he; cases he; simp [SV.refs, (Zav (Zg3 p)).1, (Zav (Zg3 p)).2] at h
def hdE (p : OP) (oe : OE) : Prop := oe = .al p [] ∨ ∃ lo sz n, oe = .sb p [] lo sz n
def hdS (p : OP) (sv : SV) : Prop := ∃ i sz off, sv = .el p [] i sz off
theorem Z38 {p q : OP} {oe : OE} (h : oe.refs (.o p) = false) (hq : oe.owner = true → q ≠ p) : okE (fun x => x = .own p) q oe ∨ hdE p oe := by
 cases oe with
 | app e => left; intro he; cases he; exact hq rfl rfl
 | ex e dp xs => left; intro he; cases he; exact hq rfl rfl
 | al r π =>
  cases hp : pinB r π with
  | true => exact .inl (.inl hp)
  | false =>
   by_cases e : r = p
   ·subst e
    cases π with
    | nil => exact .inr (.inl rfl)
    | cons x π => simp [OE.refs, hp, hdrR, OP.inn, OP.same_iff.2 rfl] at h
   ·exact .inl (.inr fun he => by cases he; exact e rfl)
 | sb r π lo sz n =>
  by_cases e : r = p
  ·subst e
   cases π with
   | nil => exact .inr (.inr ⟨lo, sz, n, rfl⟩)
   | cons x π => simp [OE.refs, hdrR, OP.inn, OP.same_iff.2 rfl] at h
  ·exact .inl fun he => by cases he; exact e rfl
theorem Zbp {p : OP} {sv : SV} (h : sv.refs (.o p) = false) : okS (fun x => x = .own p) sv ∨ hdS p sv := by
 cases sv with
 | v x => exact .inl trivial
 | ptr d off => left; intro he; cases he
 | mp d => left; intro he; cases he
 | el r π i sz off =>
  by_cases e : r = p
  ·subst e
   cases π with
   | nil => exact .inr ⟨i, sz, off, rfl⟩
   | cons x π => simp [SV.refs, hdrR, OP.inn, OP.same_iff.2 rfl] at h
  ·exact .inl fun he => by cases he; exact e rfl
theorem Zsy {p q : OP} {oe : OE} {u : Value} (hS : Stp (fun x => x = .own p) w w' G G) (h : okE (fun x => x = .own p) q oe ∨ hdE p oe) (ho : Own P G w q oe u) : Own P G w' q oe u := by
 rcases h with h | h
 ·exact hS.own h ho
 ·rcases h with rfl | ⟨lo, sz, n, rfl⟩
  ·exact ho
  ·exact ho
theorem Z11p {p : OP} {sv : SV} {u : Value} (hS : Stp (fun x => x = .own p) w w' G G) (h : okS (fun x => x = .own p) sv ∨ hdS p sv) (ho : RelS G w sv u) : RelS G w' sv u := by
 rcases h with h | h
 ·exact hS.relS h ho
 ·obtain ⟨i, sz, off, rfl⟩ := h
  exact ho
structure AvO (p : OP) (L : Look) : Prop where
 t : ∀ s sv own, L.t s = some (sv, own) → (okS (fun x => x = .own p) sv ∨ hdS p sv) ∧ ∀ j oe, (j, oe) ∈ own → okE (fun x => x = .own p) (.t s j) oe ∨ hdE p oe
 b : ∀ d x, L.b d = some x → ¬ ((LP.box d = .own p) ∨ (LP.ptr d = .own p)) ∧ (match x with | .cells _ own => ∀ j oe, (j, oe) ∈ own → okE (fun x => x = .own p) (.b d j) oe ∨ hdE p oe | .map _ _ => True | .ref _ => True | .part _ _ => True)
 g : ∀ i own, L.g i = some own → ∀ j oe, (j, oe) ∈ own → okE (fun x => x = .own p) (.a i j) oe ∨ hdE p oe
theorem Inv.stepO (h : Inv E L a w G) {p : OP} (hL : AvO p L) (hS : Stp (fun x => x = .own p) w w' G G) : Inv E L a w' G := by
 refine ⟨h.size, h.dfr, ?_, ?_, hS.new, ?_, ⟨fun i j => (hS.pin.1 i j).trans (h.pin.1 i j), h.pin.2.1, fun d hd => (hS.pin.2 d hd).trans (h.pin.2.2 d hd)⟩, ?_, ?_, ?_⟩
 ·refine ⟨hS.os.trans h.fr.os, hS.tape.trans h.fr.tape, hS.output.trans h.fr.output, Nat.le_trans h.fr.size hS.size, fun b hb hF => ?_⟩
  refine (hS.same b (Nat.lt_of_lt_of_le hb h.fr.size) (fun p hp => ?_)).1.trans (h.fr.block b hb hF)
  rcases h.may b p hp with h1 | h1
  ·omega
  ·exact absurd h1 hF
 ·intro b hb hF
  refine (hS.same b (Nat.lt_of_lt_of_le hb h.fr.size) (fun p hp => ?_)).2.1.trans (h.old b hb hF)
  rcases h.may b p hp with h1 | h1
  ·omega
  ·exact absurd h1 hF
 ·intro b p hp
  rcases hS.may b p hp with ⟨q, hq⟩ | h1
  ·exact h.may b q hq
  ·exact .inl (Nat.le_trans h.fr.size h1)
 ·intro s sv own hs
  obtain ⟨h2, h3⟩ := hL.t s sv own hs
  obtain ⟨h4, h5, h6⟩ := h.tm s sv own hs
  refine ⟨h4, Z11p hS h2 h5, fun j oe hj => ?_⟩
  obtain ⟨u, hu, ho⟩ := h6 j oe hj
  exact ⟨u, hu, Zsy hS (h3 j oe hj) ho⟩
 ·intro d x hd
  obtain ⟨hD, h2⟩ := hL.b d x hd
  obtain ⟨h3, h4, h5⟩ := h.bo d x hd
  have hlt : G.bx d < w.heap.size := Nat.lt_of_not_le (fun hle => by rw [hS.was _ hle] at h4; cases h4)
  obtain ⟨s1, s2, s3⟩ := hS.same (G.bx d) hlt (fun q hq => by rw [h4] at hq; cases hq; exact fun h => hD (.inl h))
  refine ⟨h3, h4, ?_⟩
  cases x with
  | cells cs own =>
   obtain ⟨us, e, h6, h7⟩ := h5
   refine ⟨us, e, by rw [s1]; exact h6, RelL.mono hS.ext _ _ h7.rel, fun j oe hj => ?_⟩
   obtain ⟨u, hu, ho⟩ := h7.own j oe hj
   exact ⟨u, hu, Zsy hS (h2 j oe hj) ho⟩
  | map ks vs =>
   obtain ⟨es, k, h6, h7, h8⟩ := h5
   exact ⟨es, k, by rw [s1]; exact h6, RelL.mono hS.ext _ _ h7, RelL.mono hS.ext _ _ h8⟩
  | ref q =>
   obtain ⟨e, h6⟩ := h5
   exact ⟨e, by rw [s1]; exact h6⟩
  | part m cs =>
   obtain ⟨us, e, h6, h7⟩ := h5
   exact ⟨us, e, by rw [s1]; exact h6, RelL.mono hS.ext _ _ h7⟩
 ·intro i own hi j oe hj
  exact Zsy hS (hL.g i own hi j oe hj) (h.gr i own hi j oe hj)
theorem Zas {j : Nat} {x : OE} : ∀ {own : OwnL} {k : Nat} {y : OE}, (k, y) ∈ setO own j x → (k = j ∧ y = x) ∨ (k ≠ j ∧ (k, y) ∈ own)
 | [], k, y, h => by cases h
 | (i, z) :: l, k, y, h => by
  simp only [setO] at h
  split at h
  ·rename_i hb
   have := Nat.eq_of_beq_eq_true hb
   subst this
   rcases List.mem_cons.1 h with h | h
   ·cases h; exact .inl ⟨rfl, rfl⟩
   ·exact (Zas h).imp id (fun ⟨h1, h2⟩ => ⟨h1, List.mem_cons_of_mem _ h2⟩)
  ·rename_i hb
   rcases List.mem_cons.1 h with h | h
   ·cases h; exact .inr ⟨Z57 hb, List.mem_cons_self⟩
   ·exact (Zas h).imp id (fun ⟨h1, h2⟩ => ⟨h1, List.mem_cons_of_mem _ h2⟩)
theorem Inv.putP (hI : Inv E L a w G) {p : OP} {x : OE} {us : List Upd} (hp : putO (L.upd (.f (.o p))) p x = some us) (hS : Stp (fun q => q = .own p) w w' G G) (hbx : ∀ d, G.lab (G.bx d) = some (.box d) → True) (hx : ∀ u, G.pv p = u → Own E.P G w' p x u) (hw : x.owner = true)
  (hroot : ∃ y, Z6c L p = some y ∧ y.owner = true) : SR E ((L.upd (.f (.o p))).upds us) a w' := by
 cases p with
 | t s j =>
  simp only [putO] at hp
  split at hp
  ·rename_i sv own hs
   cases hp
   obtain ⟨h1, h2⟩ := f_t.1 hs
   simp only [Zfl, Bool.or_eq_false_iff] at h2
   obtain ⟨k1, k2, k3⟩ := hI.tm s sv own h1
   have i1 := hI.forget (.o (.t s j))
   let own1 : OwnL := own.filter fun q => !Nat.beq q.1 j
   have i2 := i1.setT' (d := s) (sv := sv) (own := own1) k1 k2 (fun i oe hi => k3 i oe (List.mem_filter.1 hi).1)
   have av : AvO (.t s j) ((L.upd (.f (.o (.t s j)))).upd (.t s (sv, own1))) := by
    refine ⟨fun i sv' own' hi => ?_, fun i y hi => ?_, fun i own' hi i' oe ho => ?_⟩
    ·by_cases e : i = s
     ·subst e
      rw [Zge] at hi; cases hi
      refine ⟨Zbp (p := .t i j) h2.1, fun i' oe ho => Z38 (p := .t i j) (Zi h2.2 i' oe (List.mem_filter.1 ho).1) (fun _ he => ?_)⟩
      cases he
      have := (List.mem_filter.1 ho).2
      simp at this
     ·rw [Zfb e] at hi
      obtain ⟨_, h4⟩ := f_t.1 hi
      simp only [Zfl, Bool.or_eq_false_iff] at h4
      exact ⟨Zbp (p := .t s j) h4.1, fun i' oe ho => Z38 (p := .t s j) (Zi h4.2 i' oe ho) (fun _ he => by cases he; exact e rfl)⟩
    ·obtain ⟨_, h4⟩ := f_b.1 hi
     refine ⟨(by rintro (e | e) <;> cases e), ?_⟩
     cases y with
     | cells cs own' => exact fun i' oe ho => Z38 (p := .t s j) (Zi h4 i' oe ho) (fun _ he => by cases he)
     | map ks vs => trivial
     | part m cs => trivial
     | ref q => trivial
    ·obtain ⟨_, h4⟩ := f_g.1 hi
     exact Z38 (p := .t s j) (Zi h4 i' oe ho) (fun _ he => by cases he)
   have i3 := i2.stepO av hS
   have i4 := i3.setT' (d := s) (sv := sv) (own := setO own j x) k1 (Z11p hS (Zbp (p := .t s j) h2.1) k2) (fun i oe hi => by
    rcases Zas hi with ⟨rfl, rfl⟩ | ⟨hne, hi⟩
    ·obtain ⟨y, hy, hyw⟩ := hroot
     simp only [Z6c, h1] at hy
     obtain ⟨u, hu, ho⟩ := k3 i y (Z3x hy)
     exact ⟨u, hu, hx u (ho.pv hyw)⟩
    ·obtain ⟨u, hu, ho⟩ := k3 i oe hi
     exact ⟨u, hu, Zsy hS (Z38 (p := .t s j) (Zi h2.2 i oe hi) (fun _ he => by cases he; exact hne rfl)) ho⟩)
   refine ⟨G, ?_⟩
   have e : ((L.upd (.f (.o (.t s j)))).upd (.t s (sv, own1))).upd (.t s (sv, setO own j x)) = (L.upd (.f (.o (.t s j)))).upd (.t s (sv, setO own j x)) := by
    simp only [Look.upd]
    congr 1
    funext i
    by_cases e : i = s <;> simp [e]
   rw [e] at i4
   exact i4
  ·cases hp
 | b s j =>
  simp only [putO] at hp
  split at hp
  ·rename_i cs own hs
   cases hp
   obtain ⟨h1, h2⟩ := f_b.1 hs
   obtain ⟨k1, k2, us0, e0, k3, k4⟩ := hI.bo s _ h1
   have i1 := hI.forget (.o (.b s j))
   let own1 : OwnL := own.filter fun q => !Nat.beq q.1 j
   have i2 := i1.setB (d := s) (x := .cells cs own1) k1 k2 ⟨us0, e0, k3, k4.rel, fun i oe hi => k4.own i oe (List.mem_filter.1 hi).1⟩
   have av : AvO (.b s j) ((L.upd (.f (.o (.b s j)))).upd (.b s (.cells cs own1))) := by
    refine ⟨fun i sv' own' hi => ?_, fun i y hi => ?_, fun i own' hi i' oe ho => ?_⟩
    ·obtain ⟨_, h4⟩ := f_t.1 hi
     simp only [Zfl, Bool.or_eq_false_iff] at h4
     exact ⟨Zbp (p := .b s j) h4.1, fun i' oe ho => Z38 (p := .b s j) (Zi h4.2 i' oe ho) (fun _ he => by cases he)⟩
    ·by_cases e : i = s
     ·subst e
      simp only [Look.upd, if_pos] at hi
      cases hi
      refine ⟨(by rintro (e | e) <;> cases e), fun i' oe ho => Z38 (p := .b i j) (Zi h2 i' oe (List.mem_filter.1 ho).1) (fun _ he => ?_)⟩
      cases he
      have := (List.mem_filter.1 ho).2
      simp at this
     ·simp only [Look.upd, if_neg e] at hi
      obtain ⟨_, h4⟩ := f_b.1 hi
      refine ⟨(by rintro (e | e) <;> cases e), ?_⟩
      cases y with
      | cells cs own' => exact fun i' oe ho => Z38 (p := .b s j) (Zi h4 i' oe ho) (fun _ he => by cases he; exact e rfl)
      | map ks vs => trivial
      | part m cs => trivial
      | ref q => trivial
    ·obtain ⟨_, h4⟩ := f_g.1 hi
     exact Z38 (p := .b s j) (Zi h4 i' oe ho) (fun _ he => by cases he)
   have i3 := i2.stepO av hS
   have hlt : G.bx s < w.heap.size := (Array.getElem?_eq_some_iff.1 k3).1
   have hsame := (hS.same (G.bx s) hlt (fun q hq => by rw [k2] at hq; cases hq; intro e; cases e)).1
   have i4 := i3.setB (d := s) (x := .cells cs (setO own j x)) k1 k2 ⟨us0, e0, hsame.trans k3, RelL.mono hS.ext _ _ k4.rel, fun i oe hi => by
    rcases Zas hi with ⟨rfl, rfl⟩ | ⟨hne, hi⟩
    ·obtain ⟨y, hy, hyw⟩ := hroot
     simp only [Z6c, h1] at hy
     obtain ⟨u, hu, ho⟩ := k4.own i y (Z3x hy)
     exact ⟨u, hu, hx u (ho.pv hyw)⟩
    ·obtain ⟨u, hu, ho⟩ := k4.own i oe hi
     exact ⟨u, hu, Zsy hS (Z38 (p := .b s j) (Zi h2 i oe hi) (fun _ he => by cases he; exact hne rfl)) ho⟩⟩
   refine ⟨G, ?_⟩
   have e : ((L.upd (.f (.o (.b s j)))).upd (.b s (.cells cs own1))).upd (.b s (.cells cs (setO own j x))) = (L.upd (.f (.o (.b s j)))).upd (.b s (.cells cs (setO own j x))) := by
    simp only [Look.upd]
    congr 1
    funext i
    by_cases e : i = s <;> simp [e]
   rw [e] at i4
   exact i4
  ·cases hp
 | a s j =>
  simp only [putO] at hp
  split at hp
  ·rename_i own hs
   cases hp
   obtain ⟨h1, h2⟩ := f_g.1 hs
   have k3 := hI.gr s own h1
   have i1 := hI.forget (.o (.a s j))
   let own1 : OwnL := own.filter fun q => !Nat.beq q.1 j
   have i2 := i1.setG (i := s) (own := own1) (fun i oe hi => k3 i oe (List.mem_filter.1 hi).1)
   have av : AvO (.a s j) ((L.upd (.f (.o (.a s j)))).upd (.g s own1)) := by
    refine ⟨fun i sv' own' hi => ?_, fun i y hi => ?_, fun i own' hi i' oe ho => ?_⟩
    ·obtain ⟨_, h4⟩ := f_t.1 hi
     simp only [Zfl, Bool.or_eq_false_iff] at h4
     exact ⟨Zbp (p := .a s j) h4.1, fun i' oe ho => Z38 (p := .a s j) (Zi h4.2 i' oe ho) (fun _ he => by cases he)⟩
    ·obtain ⟨_, h4⟩ := f_b.1 hi
     refine ⟨(by rintro (e | e) <;> cases e), ?_⟩
     cases y with
     | cells cs own' => exact fun i' oe ho => Z38 (p := .a s j) (Zi h4 i' oe ho) (fun _ he => by cases he)
     | map ks vs => trivial
     | part m cs => trivial
     | ref q => trivial
    ·by_cases e : i = s
     ·subst e
      simp only [Look.upd, if_pos] at hi
      cases hi
      refine Z38 (p := .a i j) (Zi h2 i' oe (List.mem_filter.1 ho).1) (fun _ he => ?_)
      cases he
      have := (List.mem_filter.1 ho).2
      simp at this
     ·simp only [Look.upd, if_neg e] at hi
      obtain ⟨_, h4⟩ := f_g.1 hi
      exact Z38 (p := .a s j) (Zi h4 i' oe ho) (fun _ he => by cases he; exact e rfl)
   have i3 := i2.stepO av hS
   have i4 := i3.setG (i := s) (own := setO own j x) (fun i oe hi => by
    rcases Zas hi with ⟨rfl, rfl⟩ | ⟨hne, hi⟩
    ·obtain ⟨y, hy, hyw⟩ := hroot
     simp only [Z6c, h1] at hy
     exact hx _ ((k3 i y (Z3x hy)).pv hyw)
    ·exact Zsy hS (Z38 (p := .a s j) (Zi h2 i oe hi) (fun _ he => by cases he; exact hne rfl)) (k3 i oe hi))
   refine ⟨G, ?_⟩
   have e : ((L.upd (.f (.o (.a s j)))).upd (.g s own1)).upd (.g s (setO own j x)) = (L.upd (.f (.o (.a s j)))).upd (.g s (setO own j x)) := by
    simp only [Look.upd]
    congr 1
    funext i
    by_cases e : i = s <;> simp [e]
   rw [e] at i4
   exact i4
  ·cases hp
theorem DVL.split3 {xs : List AV} {us : List Value} {F : List Nat} (h : DVL P w xs us F) {off n : Nat} (hf : off + n ≤ xs.length) {c : List AV} {vs : List Value} {F1 : List Nat} (hc : DVL P w c vs F1) (hn : c.length = n) (hd : ∀ b ∈ F, b ∉ F1) (hF : F.Nodup) (hF1 : F1.Nodup) :
  ∃ F', DVL P w (setAll xs off c) (setAll us off vs) F' ∧ F'.Nodup ∧ ∀ b ∈ F', b ∈ F ∨ b ∈ F1 := by
 have hl := h.length
 have hl1 := hc.length
 have e1 : xs = xs.take off ++ ((xs.drop off).take n ++ xs.drop (off + n)) := by rw [← List.drop_drop, List.take_append_drop, List.take_append_drop]
 have e2 : us = us.take off ++ ((us.drop off).take n ++ us.drop (off + n)) := by rw [← List.drop_drop, List.take_append_drop, List.take_append_drop]
 rw [e1] at h
 obtain ⟨u1, u2, F2, F3, q1, q2, h1, h2⟩ := h.split
 obtain ⟨u3, u4, F4, F5, q3, q4, h3, h4⟩ := h2.split
 have l1 := h1.length
 have l3 := h3.length
 rw [List.length_take] at l1
 rw [List.length_take, List.length_drop] at l3
 have hu1 : u1 = us.take off := by rw [q1, List.take_append_of_le_length (by omega), List.take_of_length_le (by omega)]
 have hu4 : u4 = us.drop (off + n) := by
  rw [q1, q3, ← List.append_assoc, List.drop_append_of_le_length (by rw [List.length_append]; omega), List.drop_of_length_le (by rw [List.length_append]; omega)]
  rfl
 subst q2; subst q4
 refine ⟨F2 ++ (F1 ++ F5), ?_, ?_, ?_⟩
 ·rw [Z33 _ _ _ (by omega), Z33 _ _ _ (by omega), hn, hl1, hn, List.append_assoc, List.append_assoc, ← hu1, ← hu4]
  exact h1.append (hc.append h4)
 ·obtain ⟨n1, n2, n3⟩ := List.nodup_append.1 hF
  obtain ⟨n4, n5, n6⟩ := List.nodup_append.1 n2
  refine List.nodup_append.2 ⟨n1, List.nodup_append.2 ⟨hF1, n5, fun x hx y hy e => hd y (by simp [hy]) (e ▸ hx)⟩, fun x hx y hy e => ?_⟩
  rcases List.mem_append.1 hy with hy | hy
  ·exact hd x (by simp [hx]) (e ▸ hy)
  ·exact n3 x hx y (by simp [hy]) e
 ·intro b hb
  rcases List.mem_append.1 hb with hb | hb
  ·exact .inl (by simp [hb])
  ·rcases List.mem_append.1 hb with hb | hb
   ·exact .inr hb
   ·exact .inl (by simp [hb])
end Go.Bv

namespace Go.Bv
open Go.RowKit
variable {E : Env} {P : Program} {n : Nat} {L L' : Look} {a : Act} {w w' : World} {G G' : Gho} {D D' : LP → Prop} {o : Oper} {d : Nat} {h : Hint} {ups : List Upd} {obs : List Prop}
theorem flatten_length' {xs : List (List AV)} {sz : Nat} (h : ∀ c ∈ xs, c.length = sz) : xs.flatten.length = xs.length * sz := by
 induction xs with
 | nil => simp
 | cons x xs ih => simp only [List.flatten_cons, List.length_append, List.length_cons]; rw [h x (by simp), ih (fun c hc => h c (by simp [hc])), Nat.add_mul]; omega
theorem Inv.storeEl (hI : Inv E L a w G) {p : OP} {e : TypeId} {dp : Bool} {xs zs : List (List AV)} {i sz off : Nat} {b len cap : Nat} (hroot : Z6c L p = some (.ex e dp xs)) (hpv : G.pv p = .slice (some ⟨b, 0, none⟩) len cap)
  {u : Value} {F : List Nat} (hRs : Rs E.P G.X w (.ex e dp xs) u F) (hF : ∀ b ∈ F, G.lab b = some (.own p)) (hu : G.pv p = u)
  {c : List AV} {vs : List Value} {F1 : List Nat} (hc : Cont E.P G w p dp c vs F1) (hd : dp = true → ∀ b ∈ F, b ∉ F1) (hone : ∀ v ∈ vs, v.oneCell' = true)
  {r : List AV} (hr : xs[i]? = some r) (hrl : r.length = sz) (hfit : off + c.length ≤ sz) (hz : zs = xs.modify i fun q => setAll q off c) {us : List Upd} (hp : putO (L.upd (.f (.o p))) p (.ex e dp zs) = some us) :
  ∃ w', (storeCells ⟨b, i * sz + off, none⟩ vs).run E.P w = .ok () w' ∧ SR E ((L.upd (.f (.o p))).upds us) a w' := by
 obtain ⟨e2, sz', us0, F', g0, g1, g2, g3, g4, rfl, g6, g7⟩ := hRs
 have hsz : sz' = sz := by rw [← hrl]; exact (g3 r (List.mem_of_getElem? hr)).symm
 subst hsz
 have hilt : i < xs.length := (List.getElem?_eq_some_iff.1 hr).1
 have hvl : vs.length = c.length := hc.length
 have hmul : i * sz' + sz' ≤ xs.length * sz' := by
  have := Nat.mul_le_mul_right sz' (show i + 1 ≤ xs.length from hilt)
  rwa [Nat.add_mul, Nat.one_mul] at this
 rcases g2.2 with ⟨e1, e2⟩ | ⟨g, cp, cur, e1, _, hheap, hnc, hcm, hcs, htake⟩
 ·omega
 ·rw [← hu, hpv] at e1
  cases e1
  have hcap : xs.length * sz' ≤ cap * sz' := Nat.mul_le_mul_right _ hnc
  have hst := run_storeCells_at E.P b (i * sz' + off) e2 vs 0 cur w hheap (by omega) hone
  have hset : (cur.toList.take (i * sz' + off + 0) ++ vs ++ cur.toList.drop (i * sz' + off + 0 + vs.length)) = setAll cur.toList (i * sz' + off) vs := by
   rw [Z33 _ _ _ (by simp; omega)]; simp
  rw [hset] at hst
  refine ⟨_, hst, ?_⟩
  have hW : Wrote w (w.setRow b (setAll cur.toList (i * sz' + off) vs).toArray) b := Wrote.setRow _ _ _
  have hheap' := setRow_heap w b cur (setAll cur.toList (i * sz' + off) vs).toArray e2 (0, 0) hheap
  have hbF : b ∈ blks u ++ F' := by rw [← hu, hpv]; simp [blks, Value.ownBlock]
  have hS : Stp (fun q => q = .own p) w (w.setRow b (setAll cur.toList (i * sz' + off) vs).toArray) G G := hW.stp hI (hF b hbF) rfl (g7 b hbF)
  refine hI.putP hp hS (fun _ _ => trivial) (fun u' hu' => ?_) rfl ⟨_, hroot, rfl⟩
  have huu : u' = u := hu'.symm.trans hu
  subst huu
  have hu2 : u' = .slice (some ⟨b, 0, none⟩) xs.length cap := by rw [← hu, hpv]
  have hzl : zs.length = xs.length := by rw [hz]; simp
  have hzlen : ∀ q ∈ zs, q.length = sz' := by
   intro q hq
   rw [hz, List.mem_iff_getElem?] at hq
   obtain ⟨j, hj⟩ := hq
   rw [List.getElem?_modify] at hj
   cases hc0 : xs[j]? with
   | none => rw [hc0] at hj; cases hj
   | some c0 =>
    rw [hc0] at hj
    have := g3 c0 (List.mem_of_getElem? hc0)
    by_cases eij : i = j
    ·simp [eij] at hj; rw [← hj, Z58]; exact this
    ·simp [eij] at hj; rw [← hj]; exact this
  have hzf : zs.flatten = setAll xs.flatten (i * sz' + off) c := by rw [hz]; exact Zb4 id xs i r sz' off c g3 hr hfit
  have hxl := flatten_length' g3
  -- the row anew
  have hrow : (w.setRow b (setAll cur.toList (i * sz' + off) vs).toArray).ownsRow 0 e2 sz' u' zs.length (setAll us0 (i * sz' + off) vs) := by
   refine ⟨by rw [Z58, g2.1, hzl], .inr ⟨b, cap, _, by rw [hu2, hzl], Nat.zero_le _, hheap', by omega, hcm, by simp [Z58, hcs], ?_⟩⟩
   simp only [List.toList_toArray]
   have hus : us0.length = xs.length * sz' := g2.1
   rw [hzl, Z33 _ _ _ (by simp; omega), Z33 _ _ _ (by omega), ← htake]
   rw [List.take_append, List.take_append, List.take_take, List.drop_take]
   simp only [List.length_append, List.length_take, Array.length_toList]
   have m1 : min (i * sz' + off) cur.size = i * sz' + off := Nat.min_eq_left (by omega)
   have m2 : min (i * sz' + off) (xs.length * sz') = i * sz' + off := Nat.min_eq_left (by omega)
   have m3 : min (xs.length * sz') (i * sz' + off) = i * sz' + off := Nat.min_eq_right (by omega)
   rw [m1, m3, List.take_of_length_le (show vs.length ≤ xs.length * sz' - (i * sz' + off) by omega), List.take_take, m2]
  cases dp with
  | true =>
   obtain ⟨c1, c2, c3⟩ := hc
   have hdis : ∀ b ∈ F', b ∉ F1 := fun b hb => hd rfl b (by simp [hb])
   obtain ⟨n1, n2, n3⟩ := List.nodup_append.1 g6
   obtain ⟨F2, d1, d2, d3⟩ := DVL.split3 (off := i * sz' + off) (n := c.length) g4 (by rw [hxl]; omega) c1 rfl hdis n2 c2
   have hbF2 : ∀ q ∈ F2, q ≠ b := by
    rintro q hq rfl
    rcases d3 q hq with h1 | h1
    ·exact n3 q (by rw [hu2]; simp [blks, Value.ownBlock]) q h1 rfl
    ·exact hd rfl q hbF h1
   refine ⟨hu, blks u' ++ F2, ⟨e2, sz', _, F2, g0, g1, hrow, hzlen, ?_, rfl, ?_, ?_⟩, ?_⟩
   ·rw [hzf]; exact DVL.stay _ _ _ d1 (fun q hq => hW.block q (hbF2 q hq))
   ·refine List.nodup_append.2 ⟨n1, d2, fun x hx y hy e => ?_⟩
    subst e
    rw [hu2] at hx
    simp [blks, Value.ownBlock] at hx
    exact hbF2 x hy hx
   ·intro q hq
    rcases List.mem_append.1 hq with hq | hq
    ·exact g7 q (by simp [hq])
    ·rcases d3 q hq with h1 | h1
     ·exact g7 q (by simp [h1])
     ·exact (c3 q h1).2
   ·intro q hq
    rcases List.mem_append.1 hq with hq | hq
    ·exact hF q (by simp [hq])
    ·rcases d3 q hq with h1 | h1
     ·exact hF q (by simp [h1])
     ·exact (c3 q h1).1
  | false =>
   obtain ⟨_, c2⟩ := hc
   obtain ⟨rfl, g4⟩ := g4
   refine ⟨hu, blks u' ++ [], ⟨e2, sz', _, [], g0, g1, hrow, hzlen, ⟨rfl, ?_⟩, rfl, g6, g7⟩, hF⟩
   rw [hzf]
   exact RelL.mono hS.ext _ _ (RelL.setAll _ c2 g4)
theorem Zqt {y : Operand} {T : TypeId} {own : OwnL} (h : Zcv y = false) : insL y T P own = own := by unfold insL; rw [h]
theorem Zun (hI : Inv E L a w G) (hd : o.dst = none) {T : TypeId} {x y : Operand} (ho : o.op = .store T x y) (hop : Zs2 E.P L T x y h = some (ups, obs)) (hob : ∀ p ∈ obs, p) : Does E L o a w ups := by
 intro Q
 unfold Zs2 at hop
 split at hop
 ·-- into a box
  rename_i s k off own1 av own pre hs hx hg
  have hu : a.eval x = .pointer (some ⟨G.bx k, off, none⟩) := Z6s hI hx
  split at hop
  ·rename_i cs own0 hb
   split at hop
   ·rename_i hc hn
    simp only [Bool.and_eq_true, Nat.ble_eq] at hc
    obtain ⟨h123, h4⟩ := hc
    simp only [Bool.or_eq_false_iff, Bool.not_eq_false'] at hn
    obtain ⟨⟨hn1, hn2⟩, hn3⟩ := hn
    cases hop
    obtain ⟨h1, h2, h3, hce⟩ := Zov h123 hob
    rw [hce]
    have h3' := Nat.eq_of_beq_eq_true h3
    have finish : ∀ {L2 : Look} {w' : World}, (storeCells ⟨G.bx k, off, none⟩ (a.eval y).cells.toList).run E.P w = .ok () w' → (a.eval y).cells.size = s → SR E L2 a w' → o.wp E.P a w (fun a' w' => SR E L2 a' w') Q := by
     intro L2 w' hrun hsz hSR
     unfold Oper.wp
     have : (execOp a.eval o).run E.P w = .ok .skip w' := by
      simp only [execOp, ho, hu, Sem.run_bind, Z9t hs hsz, hrun, Result.andThen_ok, Sem.run_pure]
     rw [this, Oper.upon_skip, hd]
     exact hSR
    rw [Z1t]
    cases Z8v hI hg with
    | seen hr hoo =>
     have hcells := Z2t hr h1
     have hsz : (a.eval y).cells.size = s := by rw [← h3', ← hcells.length]; simp
     have hfl := Z4j (Z3p hr h1)
     obtain ⟨w', hrun, hSR⟩ := hI.storeBox (D := fun _ => False) (off := off) hb hcells (by omega) (Z9i hcells h2) (insL y T E.P own) hn1 ⟨fun s sv own hs => ⟨Z7o, fun j oe hj => Z1i⟩, fun d x hd => ⟨(fun h => h.elim id id), by cases x <;> first | trivial | exact (fun h => h) | exact fun j oe hj => Z1i⟩, fun i own hi j oe hj => Z1i⟩
      (fun j oe hj => Z1i) (ρ := id) (fun p hp => rfl) (fun j oe hj => by
       cases hnil : Zcv y with
       | true =>
        have hy : y = .const (.slice none 0 0) := by
         unfold Zcv at hnil
         split at hnil
         ·rfl
         ·cases hnil
        subst hy
        unfold insL at hj
        rw [hnil] at hj
        simp only [] at hj
        split at hj
        ·split at hj
         ·rename_i he
          simp at hj
          obtain ⟨rfl, rfl⟩ := hj
          exact ⟨_, rfl, .inl ⟨rfl, .inr ⟨_, rfl, rfl, he⟩⟩⟩
         ·cases hj
        ·cases hj
       | false =>
        rw [Zqt hnil] at hj hn2
        obtain ⟨hw, u, hu, hoc⟩ := hoo j oe hj
        rw [hfl] at hu
        exact ⟨u, hu, .inr ⟨hw, Z1i, Z6j (Zi hn2 j oe hj) (fun h => by rw [hw] at h; cases h), hoc⟩⟩)
     rw [h3'] at hSR
     exact finish hrun hsz hSR
    | taken t z hxt hst ht hnt =>
     subst hxt; cases hst
     obtain ⟨_, hr, hoo⟩ := hI.tm t _ _ ht
     have hr' : Rel G.X w av (a.eval (.tmp t)) := hr
     have hcells := Z2t hr' h1
     have hsz : (a.eval (.tmp t)).cells.size = s := by rw [← h3', ← hcells.length]; simp
     have hfl := Z4j (Z3p hr' h1)
     obtain ⟨i1, a1⟩ := hI.clear ht
     simp only [Zzr, Bool.not_eq_true'] at hn3
     have hins : insL (.tmp t) T E.P own = own := Zqt rfl
     rw [hins] at hn2 ⊢
     obtain ⟨w', hrun, hSR⟩ := i1.storeBox (D := DR (.t t)) (off := off) hb hcells (by omega) (Z9i hcells h2) own hn1 a1
      (fun j oe hj => Z6j (Zi hn3 j oe hj) (fun _ h => h)) (ρ := Zlp t k off) (fun p hp => by
       cases p with
       | t i j => simp only [DR] at hp; simp [Zlp, hp]
       | b i j => rfl
       | a i j => rfl) (fun j oe hj => by
       obtain ⟨u, hu, hoc⟩ := hoo j oe hj
       have hu' : (Value.flat (a.eval (.tmp t)))[j]? = some u := hu
       rw [hfl] at hu'
       refine ⟨u, hu', ?_⟩
       cases hw : oe.owner with
       | true => exact .inl ⟨rfl, .inl ⟨.t t j, by simp [Zlp], hoc⟩⟩
       | false => exact .inr ⟨rfl, Ze5 (d := t) hnt hj hw, Z6j (Zi hn2 j oe hj) (fun h => by rw [hw] at h; cases h), fun q => hoc.al_any hw⟩)
     rw [h3'] at hSR
     exact finish hrun hsz hSR
   ·cases hop
  ·cases hop
 ·-- into an element
  rename_i s p i sz off own1 av own pre hs hx hg
  obtain ⟨b, len, cap, hat, hlab, hilen, hu⟩ := Z6s hI hx
  have hpv : G.pv p = .slice (some ⟨b, 0, none⟩) len cap := (show Value.slice (some ⟨b, 0, none⟩) len cap = G.pv p from hat).symm
  split at hop
  ·rename_i e dp xs hroot
   split at hop
   ·rename_i c hc hf
    simp only [Bool.and_eq_true] at hc
    obtain ⟨⟨⟨h1, h2⟩, h3⟩, h4⟩ := hc
    have h3' := Nat.eq_of_beq_eq_true h3
    split at hop
    rename_i zs ob hnew
    split at hop
    ·rename_i us hput
     cases hop
     have hzs := Zed hnew (fun q hq => hob q (by simp [hq]))
     obtain ⟨r, hr1, hr2, hr3⟩ := hob _ (List.mem_append_right _ (List.mem_singleton.2 rfl))
     -- the nil slice needs no place
     have hfm : ∃ md, dpOf md = dp ∧ Zoy md (insL y T E.P own) av.cells = some c := by
      cases dp with
      | true => exact ⟨2, rfl, hf⟩
      | false => exact ⟨1, rfl, hf⟩
     obtain ⟨md, hmd, hfm⟩ := hfm
     have part : ∃ G', G'.X = G.X ∧ (∀ b, G.lab b = some (.own p) → G'.lab b = some (.own p)) ∧ (∀ q, G'.pv q = G.pv q) ∧ Inv E (L.upds pre) a w G' ∧ Rel G.X w av (a.eval y) ∧
       ∃ F, Cont E.P G' w p (dpOf md) c (a.eval y).cells.toList F ∧ (dpOf md = true → ∀ b ∈ F, G.lab b ≠ some (.own p)) := by
      cases hnil : Zcv y with
      | false =>
       rw [Zqt hnil] at hfm
       obtain ⟨G', e1, e2, _, e3, _, i1, _, hrel, hF⟩ := hI.partIn (D0 := fun _ => False) ⟨fun s sv own hs => ⟨Z7o, fun j oe hj => Z1i⟩, fun d x hd => ⟨(fun h => h.elim id id), by cases x <;> first | trivial | exact (fun h => h) | exact fun j oe hj => Z1i⟩, fun i own hi j oe hj => Z1i⟩ (Z8v hI hg) hfm h1 (p := p) (by
        rintro t hne rfl j rfl
        cases pre with
        | nil => exact hne rfl
        | cons q qs => simp [Zx0, OP.inn] at h4)
       exact ⟨G', e1, e2, e3, i1, hrel, hF⟩
      | true =>
       have hy : y = .const (.slice none 0 0) := by
        unfold Zcv at hnil
        split at hnil
        ·rfl
        ·cases hnil
       subst hy
       have hp : av = .sl [] ∧ pre = [] := by
        simp [grab, ev, Zkm, Zcs] at hg
        exact ⟨hg.1.symm, hg.2.2⟩
       obtain ⟨rfl, rfl⟩ := hp
       have hrel : Rel G.X w (.sl []) (.slice none 0 0) := ⟨none, 0, 0, rfl, rfl, Nat.le_refl _, .inl rfl⟩
       refine ⟨G, rfl, fun b h => h, fun q => rfl, hI, hrel, [], ?_, by simp⟩
       -- what the nil slice becomes
       have hown : ∀ e', (0, OE.app e') ∈ insL (.const (.slice none 0 0)) T E.P own → (Z4x E.P e').isSome = true := by
        intro e' he'
        unfold insL at he'
        simp only [Zcv] at he'
        split at he'
        ·split at he'
         ·rename_i hsz; simp at he'; cases he'; exact hsz
         ·cases he'
        ·cases he'
       have hmem : ∀ {j : Nat} {oe : OE}, (j, oe) ∈ insL (.const (.slice none 0 0)) T E.P own → ∃ e', oe = .app e' := by
        intro j oe he'
        unfold insL at he'
        simp only [Zcv] at he'
        split at he'
        ·split at he'
         ·simp at he'; exact ⟨_, he'.2⟩
         ·cases he'
        ·cases he'
       have hD : ∀ {c : List AV}, Zbr (insL (.const (.slice none 0 0)) T E.P own) 0 (AV.cells (.sl [])) = some c → DVL E.P w c (Value.cells (.slice none 0 0)).toList [] := by
        intro c hf
        simp only [AV.cells, Zbr] at hf
        split at hf
        ·rename_i h5; obtain ⟨e', h6⟩ := hmem (Z3x h5); cases h6
        ·rename_i e' h5
         cases hf
         obtain ⟨s', hs'⟩ := Option.isSome_iff_exists.1 (hown e' (Z3x h5))
         exact ⟨_, [], [], [], rfl, rfl, ⟨e', s', [], [], hs', World.ownsRow_nil w 0 e' s', ⟨rfl, rfl⟩, rfl⟩, ⟨rfl, rfl⟩⟩
        ·cases hf
        ·cases hf
       have hS : ∀ {c : List AV}, Zna (insL (.const (.slice none 0 0)) T E.P own) (AV.cells (.sl [])) = some c → RelL G.X w c (Value.cells (.slice none 0 0)).toList := by
        intro c hf
        unfold Zna at hf
        split at hf
        ·cases hf; exact ⟨_, [], rfl, hrel, rfl⟩
        ·cases hf
       unfold Zoy at hfm
       split at hfm
       ·exact ⟨rfl, hS hfm⟩
       ·exact ⟨rfl, hS hfm⟩
       ·rename_i m0 m1
        have hdp : dpOf md = true := by unfold dpOf; split <;> simp_all
        rw [hdp]
        exact ⟨hD hfm, List.nodup_nil, by simp⟩
     obtain ⟨G', e1, e2, e3, i1, hrel, F1, hcont, hdis⟩ := part
     rw [hmd] at hcont hdis
     have hcells := Z2t hrel h1
     have hsz : (a.eval y).cells.size = s := by rw [← h3', ← hcells.length]; simp
     have hcl : c.length = s := by rw [Zho hfm]; exact h3'
     -- the slice as it was held before
     have hroot0 : Z6c L p = some (.ex e dp xs) := by
      cases Z8v hI hg with
      | seen hr hoo => exact hroot
      | taken t z hxt hst ht hnt =>
       subst hxt
       cases p with
       | t q j =>
        have hne : q ≠ t := by rintro rfl; simp [Zx0, OP.inn] at h4
        simp only [Z6c] at hroot ⊢
        split at hroot
        ·rename_i sv own hs
         have h5 : (((L.upd (.f (.t t))).upd (.t t (.v z, []))).t q) = some (sv, own) := hs
         rw [Zfb hne] at h5
         rw [(f_t.1 h5).1]; exact hroot
        ·cases hroot
       | b q j =>
        simp only [Z6c] at hroot ⊢
        split at hroot
        ·rename_i cs own hs
         have h5 : (L.upd (.f (.t t))).b q = some (.cells cs own) := hs
         rw [(f_b.1 h5).1]; exact hroot
        ·cases hroot
       | a q j =>
        simp only [Z6c] at hroot ⊢
        split at hroot
        ·rename_i own hs
         have h5 : (L.upd (.f (.t t))).g q = some own := hs
         rw [(f_g.1 h5).1]; exact hroot
        ·cases hroot
     obtain ⟨u, hown⟩ := Z8j hI hroot0 rfl
     have hu0 := hown.pv rfl
     obtain ⟨_, F, hRs, hF⟩ := hown
     obtain ⟨w', hrun, hSR⟩ := i1.storeEl hroot (by rw [e3]; exact hpv) (by rw [e1]; exact hRs) (fun b hb => e2 b (hF b hb)) (by rw [e3]; exact hu0) hcont (fun hdp b hb hb' => hdis hdp b hb' (hF b hb)) (Z9i hcells h2) hr1 hr2 (by omega) hzs hput
     rw [Z1t, Z1t]
     unfold Oper.wp
     have : (execOp a.eval o).run E.P w = .ok .skip w' := by
      simp only [execOp, ho, hu, Sem.run_bind, Z9t hs hsz, hrun, Result.andThen_ok, Sem.run_pure]
     rw [this, Oper.upon_skip, hd]
     exact hSR
    ·cases hop
   ·cases hop
  ·cases hop
 ·cases hop
def elA (L : Look) (t k off : Nat) : List Nat → List Upd
 | [] => []
 | x :: r => match L.t x with
  | some (.el (.t t0 0) [] i sz o, _) => match Nat.beq t0 t with
   | true => .t x (.el (.b k off) [] i sz o, []) :: elA L t k off r
   | false => elA L t k off r
  | _ => elA L t k off r
def Zqk (P : Program) (L : Look) (T : TypeId) (x y : Operand) (h : Hint) : Ans :=
 match x, y with
 | .tmp s, .tmp t => match L.t s, L.t t, Zs2 P L T x y h with
  | some (.ptr k off, _), some (.v .slx, [(0, oe)]), some (us, ob) => match Z4x P T, L.b k, (L.upds us).t s, (L.upds us).b k with
   | some 1, some (.cells cs0 _), some (.ptr k' off', _), some (.cells cs own) => match oe.owner && Nat.beq k' k && Nat.beq off' off && Nat.blt off cs0.length, lkO own off with
    | true, some oe' => match oe'.owner with
     | true => some (us ++ ([.t t (.v .slx, [(0, .al (.b k off) [])])] ++ elA L t k off h.io), ob)
     | false => none
    | _, _ => none
   | _, _, _, _ => none
  | _, _, _ => none
 | _, _ => none
theorem Zv3 {p : OP} {oe : OE} {u : Value} (h : Own P G w p oe u) (hw : oe.owner = true) : G.pv p = u := by
 cases oe with
 | app e => exact h.1
 | ex e dp xs => exact h.1
 | al q π => cases hw
 | sb q π lo sz n => cases hw
theorem Zxz {p : OP} {oe : OE} {u : Value} (h : Own P G w p oe u) (hw : oe.owner = true) : ∀ b ∈ blks u, G.lab b = some (.own p) := by
 cases oe with
 | app e => obtain ⟨_, F, ⟨_, _, _, _, _, hF, _⟩, hl⟩ := h; intro b hb; exact hl b (by rw [hF]; exact hb)
 | ex e dp xs => obtain ⟨_, F, ⟨_, _, _, _, _, _, _, _, _, hF, _⟩, hl⟩ := h; intro b hb; exact hl b (by rw [hF]; exact List.mem_append_left _ hb)
 | al q π => cases hw
 | sb q π lo sz n => cases hw
theorem Zne {L0 : Look} {t k off : Nat} {c : Value} {w0 : World} {G0 : Gho} (h0 : Inv E L0 a w0 G0) (hpv0 : G0.pv (.t t 0) = c) : ∀ (l : List Nat) (L : Look), Inv E L a w G → G.pv (.b k off) = c → (∀ b ∈ blks c, G.lab b = some (.own (.b k off))) → Inv E (L.upds (elA L0 t k off l)) a w G
 | [], L, h, _, _ => h
 | x :: l, L, h, hp, hl => by
  simp only [elA]
  split
  ·rename_i t0 i sz o own hx
   split
   ·rename_i hb
    have hb := Nat.eq_of_beq_eq_true hb
    subst hb
    obtain ⟨hn, ⟨b, len, cap, hat, hlab, hi, hv⟩, _⟩ := h0.tm x _ _ hx
    have hat : Value.slice (some ⟨b, 0, none⟩) len cap = G0.pv (.t t0 0) := hat
    have hc : c = .slice (some ⟨b, 0, none⟩) len cap := by rw [← hpv0, ← hat]
    refine Zne h0 hpv0 l (L.upd (.t x (.el (.b k off) [] i sz o, []))) ?_ hp hl
    refine h.setT' (d := x) hn (sv := .el (.b k off) [] i sz o) ⟨b, len, cap, ?_, ?_, hi, hv⟩ (fun j oe hj => by cases hj)
    ·show _ = G.pv (.b k off)
     rw [hp, hc]
    ·exact hl b (by rw [hc]; exact Z4f.2 rfl)
   ·exact Zne h0 hpv0 l L h hp hl
  ·exact Zne h0 hpv0 l L h hp hl
theorem Zxl (hI : Inv E L a w G) (hd : o.dst = none) {T : TypeId} {x y : Operand} (ho : o.op = .store T x y) (hop : Zqk E.P L T x y h = some (ups, obs)) (hob : ∀ p ∈ obs, p) : Does E L o a w ups := by
 unfold Zqk at hop
 split at hop
 ·rename_i s t
  split at hop
  ·rename_i k off own0 oe us ob hs ht hst
   split at hop
   ·rename_i cs0 own1 k' off' own2 cs own hsz hb0 hs2 hb2
    split at hop
    ·rename_i oe' hc hlk
     split at hop
     ·rename_i hw'
      cases hop
      simp only [Bool.and_eq_true] at hc
      obtain ⟨⟨⟨hw, hk⟩, hoff⟩, hltc⟩ := hc
      have hltc := Z4a hltc
      have hk := Nat.eq_of_beq_eq_true hk
      have hoff := Nat.eq_of_beq_eq_true hoff
      subst hk; subst hoff
      have hx : a.eval (.tmp s) = .pointer (some ⟨G.bx k', off', none⟩) := (hI.tm s _ _ hs).2.1
      obtain ⟨htn, _, hto⟩ := hI.tm t _ _ ht
      obtain ⟨c, hc0, hoc⟩ := hto 0 oe (List.mem_singleton.2 rfl)
      have hcs := Z55 hoc hw
      obtain ⟨A, len, cap, hA⟩ := hcs
      have hy : a.eval (.tmp t) = c := by
       have e : (Value.flat (a.eval (.tmp t)))[0]? = some c := hc0
       cases hv : a.eval (.tmp t) with
       | slice A' l' c' => rw [hv] at e; simpa [Value.flat, Value.cells] using e
       | tuple vs =>
        have hr := (hI.tm t _ _ ht).2.1
        obtain ⟨A', l', c', e'⟩ := hr
        have : a.eval (.tmp t) = .slice A' l' c' := e'
        rw [hv] at this; cases this
       | _ =>
        have hr := (hI.tm t _ _ ht).2.1
        obtain ⟨A', l', c', e'⟩ := hr
        have : a.eval (.tmp t) = .slice A' l' c' := e'
        rw [hv] at this; cases this
      have hdoes := Zun hI hd ho hst hob
      intro Q
      have h2 := hdoes Q
      obtain ⟨hX, hlab, vs, e, hheap, hok⟩ := hI.bo k' _ hb0
      have hfit : off' < vs.size := by
       have hlen := hok.rel.length
       simp at hlen
       omega
      have hrun := run_storeCells_at E.P (G.bx k') off' e [c] 0 vs w hheap (by simp; omega) (by intro v hv; simp at hv; subst hv; rw [hA]; rfl)
      have hcell : (a.eval (.tmp t)).cells.toList = [c] := by rw [hy, hA]; rfl
      have hexec : (execOp a.eval o).run E.P w = .ok .skip (w.setRow (G.bx k') (vs.toList.take (off' + 0) ++ [c] ++ vs.toList.drop (off' + 0 + [c].length)).toArray) := by
       simp only [execOp, ho, hx, Sem.run_bind, Z9t hsz (show (a.eval (.tmp t)).cells.size = 1 by rw [hy, hA]; rfl)]
       rw [hcell, hrun]
       simp only [Result.andThen_ok, Sem.run_pure]
      unfold Oper.wp at h2 ⊢
      rw [hexec, Oper.upon_skip] at h2 ⊢
      rw [hd] at h2 ⊢
      obtain ⟨G2, hI2⟩ := h2
      refine ⟨G2, ?_⟩
      rw [Z1t, Z1t]
      have hx2 : a.eval (.tmp s) = .pointer (some ⟨G2.bx k', off', none⟩) := (hI2.tm s _ _ hs2).2.1
      have hbx : G2.bx k' = G.bx k' := by
       have := hx.symm.trans hx2
       simp at this
       exact this.symm
      obtain ⟨_, _, vs2, e2, hheap2, hok2⟩ := hI2.bo k' _ hb2
      obtain ⟨u2, hu2, hou2⟩ := hok2.own off' oe' (Z3x hlk)
      have hheap3 := setRow_heap w (G.bx k') vs (vs.toList.take (off' + 0) ++ [c] ++ vs.toList.drop (off' + 0 + [c].length)).toArray e (0, 0) hheap
      rw [hbx, hheap3] at hheap2
      cases hheap2
      have hu3 : u2 = c := by
       simp only [List.getElem?_toArray, Nat.add_zero] at hu2
       rw [List.append_assoc, List.getElem?_append_right (by rw [List.length_take]; omega), List.length_take, Nat.min_eq_left (by simp; omega), Nat.sub_self] at hu2
       simpa using hu2.symm
      have hpv := Zv3 hou2 hw'
      refine Zne hI (Zv3 hoc hw) h.io _ ?_ ((Zv3 hou2 hw').trans hu3) (hu3 ▸ Zxz hou2 hw')
      refine hI2.setT' (d := t) htn (sv := .v .slx) ⟨A, len, cap, ?_⟩ (fun j oe2 hj => ?_)
      ·exact hy.trans hA
      ·simp at hj
       obtain ⟨rfl, rfl⟩ := hj
       refine ⟨c, ?_, ?_, A, len, cap, hA⟩
       ·exact hc0
       ·show c = G2.pv (.b k' off')
        rw [hpv, hu3]
     ·cases hop
    ·cases hop
   ·cases hop
  ·cases hop
 ·cases hop
end Go.Bv

namespace Go.Bv
open Go.RowKit
variable {E : Env} {P : Program} {n : Nat} {L L' : Look} {a : Act} {w w' : World} {G G' : Gho} {D D' : LP → Prop} {o : Oper} {d : Nat} {h : Hint} {ups : List Upd} {obs : List Prop}
abbrev Lab := Nat → Option (Nat × Nat)
def Ents (P : Program) (X : Gh) (w : World) (lab : Lab) (i : Nat) (own : OwnL) (cells : List Value) : Prop :=
 ∀ j oe, (j, oe) ∈ own → oe.owner = true ∧ ∃ c F, cells[j]? = some c ∧ Rs P X w oe c F ∧ ∀ b ∈ F, lab b = some (i, j + 1)
def AIn (P : Program) (X : Gh) (w : World) (lab : Lab) (i : Nat) : AD → Value → Prop
 | .v x own, u => Rel X w x u ∧ Ents P X w lab i own (Value.flat u)
 | .io x own, u => Rel X w x u ∧ Ents P X w lab i own (Value.flat u)
 | .q off m cs own, u => ∃ b us e, u = .pointer (some ⟨b, off, none⟩) ∧ lab b = some (i, 0) ∧ X b = some m ∧ w.heap[b]? = some (.cells us e (0, 0)) ∧ RelL X w cs us.toList ∧ Ents P X w lab i own us.toList
def AIns (P : Program) (X : Gh) (w : World) (lab : Lab) : Nat → List AD → List Value → Prop
 | _, [], us => us = []
 | i, q :: qs, us => ∃ u r, us = u :: r ∧ AIn P X w lab i q u ∧ AIns P X w lab (i + 1) qs r
def FnO (P : Program) (f : Nat) (args : List AD) (r : AD) (outs : List (Nat × AD)) : Prop :=
 ∀ (X : Gh) (w : World) (us : List Value) (lab : Lab), AIns P X w lab 0 args us → (∀ b, w.heap.size ≤ b → X b = none ∧ lab b = none) → GT P w (fun b => ∃ q, lab b = some q) →
  Calls P f us.toArray w fun e w' => ∃ (u : Value) (X' : Gh) (lab' : Lab), e = .returned u ∧ Fr (fun b => ∃ q, lab b = some q) w w' ∧ (∀ b, b < w.heap.size → lab b = none → X' b = X b ∧ lab' b = none) ∧
   (∀ b, w'.heap.size ≤ b → X' b = none ∧ lab' b = none) ∧ AIn P X' w' lab' 0 r u ∧ ∀ i q, (i, q) ∈ outs → ∃ v, us[i]? = some v ∧ AIn P X' w' lab' (i + 1) q v
theorem Zxx {X X' : Gh} {x : AV} {u : Value} (h : Rel X w x u) (hd : x.dry1 = true) : Rel X' w' x u := by
 cases x with
 | int k m => exact h
 | bool b => exact h
 | str s => exact h
 | undef => trivial
 | slx => exact h
 | raw _ => exact h
 | nil _ => exact h
 | _ => cases hd
theorem Zia {X X' : Gh} : ∀ {cs : List AV} {us : List Value}, RelL X w cs us → cs.all AV.dry1 = true → RelL X' w' cs us
 | [], us, h, _ => h
 | c :: cs, us, ⟨u, r, e, h1, h2⟩, hs => by
  simp only [List.all_cons, Bool.and_eq_true] at hs
  exact ⟨u, r, e, Zxx h1 hs.1, Zia h2 hs.2⟩
def dryV : AV → Bool
 | .agg cs => cs.all AV.dry1
 | .tup vs => vs.all fun v => match v with | .agg cs => cs.all AV.dry1 | v => v.dry1
 | v => v.dry1
theorem Z109 {X X' : Gh} {x : AV} {u : Value} (h : Rel X w x u) (hd : dryV x = true) : Rel X' w' x u := by
 have one : ∀ {x : AV} {u : Value}, Rel X w x u → (match x with | .agg cs => cs.all AV.dry1 | v => v.dry1) = true → Rel X' w' x u := by
  intro x u h hd
  cases x with
  | agg cs => obtain ⟨us, e, h⟩ := h; exact ⟨us, e, Zia h hd⟩
  | int k m => exact h
  | bool b => exact h
  | str s => exact h
  | undef => trivial
  | slx => exact h
  | raw _ => exact h
  | nil _ => exact h
  | _ => cases hd
 cases x with
 | tup vs =>
  obtain ⟨us, e, h⟩ := h
  refine ⟨us, e, ?_⟩
  clear e
  simp only [dryV] at hd
  induction vs generalizing us with
  | nil => exact h
  | cons v vs ih =>
   obtain ⟨u, r, e, h1, h2⟩ := h
   simp only [List.all_cons, Bool.and_eq_true] at hd
   exact ⟨u, r, e, one h1 hd.1, ih hd.2 r h2⟩
 | agg cs => exact one h hd
 | int k m => exact h
 | bool b => exact h
 | str s => exact h
 | undef => trivial
 | slx => exact h
 | raw _ => exact h
 | nil _ => exact h
 | _ => cases hd
def Gho.relab (G : Gho) (f : LP → LP) (pv' : OP → Value) : Gho := { G with lab := fun b => (G.lab b).map f, pv := pv' }
theorem Stp.relab (h : Inv E L a w G) {f : LP → LP} {pv' : OP → Value} (hf : ∀ l, ¬ D l → f l = l) (hpv : ∀ p, ¬ D (.own p) → pv' p = G.pv p) (hpin : ∀ i j, pv' (.a i j) = G.pv (.a i j)) : Stp D w w G (G.relab f pv') := by
 refine ⟨rfl, rfl, rfl, Nat.le_refl _, ?_, Ext.refl _ _, fun b hb => (h.new b hb).2, ?_, ?_, fun _ _ => rfl, hpv, ⟨hpin, fun _ _ => rfl⟩⟩
 ·intro b _ hb
  refine ⟨rfl, rfl, ?_⟩
  show (G.lab b).map f = G.lab b
  cases hl : G.lab b with
  | none => rfl
  | some p => simp [hf p (hb p hl)]
 ·intro b hb
  have := h.new b hb
  exact ⟨this.1, by simp [Gho.relab, this.2]⟩
 ·intro b p hp
  simp only [Gho.relab, Option.map_eq_some_iff] at hp
  obtain ⟨q, hq, _⟩ := hp
  exact .inl ⟨q, hq⟩
def Z25 (G : Gho) : Lab := fun b => match G.lab b, G.X b with | some (.arg i j), some 0 => some (i, j) | _, _ => none
theorem Zdr {b i j : Nat} (h : G.lab b = some (.arg i j)) (hX : G.X b = some 0) : Z25 G b = some (i, j) := by simp [Z25, h, hX]
theorem Z3t {b : Nat} {q : Nat × Nat} (h : Z25 G b = some q) : G.lab b = some (.arg q.1 q.2) ∧ G.X b = some 0 := by
 unfold Z25 at h
 split at h
 ·rename_i i j hl hx; cases h; exact ⟨hl, hx⟩
 ·cases h
theorem Ents.stp {i : Nat} {own : OwnL} {cells : List Value} (h : Ents P G.X w (Z25 G) i own cells) (hS : Stp D w w G G') (hD : ∀ i j, ¬ D (.arg i j)) : Ents P G'.X w (Z25 G') i own cells := by
 intro j oe hj
 obtain ⟨h1, c, F, h2, h3, h4⟩ := h j oe hj
 have hs : ∀ b ∈ F, w.heap[b]? = w.heap[b]? ∧ G'.X b = G.X b ∧ G'.lab b = G.lab b := fun b hb => by
  have hl := (Z3t (h4 b hb)).1
  exact hS.same b (h3.lt b hb) (fun q hq => by rw [hl] at hq; cases hq; exact hD _ _)
 exact ⟨h1, c, F, h2, h3.stay (fun b hb => ⟨rfl, (hs b hb).2.1⟩) hS.ext, fun b hb => by have := h4 b hb; unfold Z25 at this ⊢; rw [(hs b hb).2.2, (hs b hb).2.1]; exact this⟩
theorem AIn.stp {i : Nat} {q : AD} {u : Value} (h : AIn P G.X w (Z25 G) i q u) (hS : Stp D w w G G') (hD : ∀ i j, ¬ D (.arg i j)) : AIn P G'.X w (Z25 G') i q u := by
 cases q with
 | v x own => exact ⟨Rel.mono hS.ext _ _ h.1, h.2.stp hS hD⟩
 | io x own => exact ⟨Rel.mono hS.ext _ _ h.1, h.2.stp hS hD⟩
 | q off m cs own =>
  obtain ⟨b, us, e, h1, h2, h3, h4, h5, h6⟩ := h
  have hl := (Z3t h2).1
  have hlt : b < w.heap.size := (Array.getElem?_eq_some_iff.1 h4).1
  have hs := hS.same b hlt (fun q hq => by rw [hl] at hq; cases hq; exact hD _ _)
  exact ⟨b, us, e, h1, by unfold Z25 at h2 ⊢; rw [hs.2.2, hs.2.1]; exact h2, hs.2.1.trans h3, h4, RelL.mono hS.ext _ _ h5, h6.stp hS hD⟩
def Gho.open (G : Gho) : Gh := fun b => match G.lab b with | some (.own _) => none | _ => G.X b
theorem Z9h : Ext G.X w G.open w := by
 refine ⟨fun b o u hc hk => ⟨hc, ?_⟩, fun r es k hr hk => ⟨hr, ?_⟩⟩
 ·simp only [okc, Gho.open]
  cases hl : G.lab b with
  | none => exact hk
  | some l => cases l <;> first | trivial | exact hk
 ·simp only [Gho.open]
  cases hl : G.lab r with
  | none => exact hk
  | some l => cases l <;> first | rfl | exact hk
theorem Ents.open_ {i : Nat} {own : OwnL} {cells : List Value} (h : Ents P G.X w (Z25 G) i own cells) : Ents P G.open w (Z25 G) i own cells := by
 intro j oe hj
 obtain ⟨h1, c, F, h2, h3, h4⟩ := h j oe hj
 exact ⟨h1, c, F, h2, h3.stay (fun b hb => ⟨rfl, by have := (Z3t (h4 b hb)).1; simp [Gho.open, this]⟩) Z9h, h4⟩
theorem AIn.open_ {i : Nat} {q : AD} {u : Value} (h : AIn P G.X w (Z25 G) i q u) : AIn P G.open w (Z25 G) i q u := by
 cases q with
 | v x own => exact ⟨Rel.mono Z9h _ _ h.1, h.2.open_⟩
 | io x own => exact ⟨Rel.mono Z9h _ _ h.1, h.2.open_⟩
 | q off m cs own =>
  obtain ⟨b, us, e, h1, h2, h3, h4, h5, h6⟩ := h
  exact ⟨b, us, e, h1, h2, by have := (Z3t h2).1; simp [Gho.open, this, h3], h4, RelL.mono Z9h _ _ h5, h6.open_⟩
theorem Held.rel {p : OP} {dp : Bool} {xs : List (List AV)} {u : Value} (h : Held P G w p dp xs u) : Rel G.open w (.sl xs) u := by
 obtain ⟨e, sz, us, F, r1, r2, r3, r4, r5⟩ := h.row
 have hop : ∀ b ∈ blks u ++ F, G.open b = none := fun b hb => by simp [Gho.open, r5 b hb]
 refine Z9u r2 r3 ?_ (fun b hb j hj => by simp [okc, hop b (by simp [Z4f, hb])])
 cases dp with
 | true => exact DVL.rel _ _ _ r4 (fun b hb => hop b (by simp [hb]))
 | false => exact RelL.mono Z9h _ _ r4
end Go.Bv

namespace Go.Bv
open Go.RowKit
variable {E : Env} {P : Program} {n : Nat} {L L' : Look} {a : Act} {w w' : World} {G G' : Gho} {D D' : LP → Prop} {o : Oper} {d : Nat} {h : Hint} {ups : List Upd} {obs : List Prop}
def Zlw (cs : List AV) : OwnL → Bool
 | [] => true
 | (_, .ex _ _ _) :: l => Zlw cs l
 | (j, .app _) :: l => (match cs[j]? with | some (.sl []) => true | _ => false) && Zlw cs l
 | _ => false
theorem Zci {cs : List AV} : ∀ {own : OwnL}, Zlw cs own = true → ∀ j oe, (j, oe) ∈ own → oe.owner = true ∧ (∀ e, oe = .app e → cs[j]? = some (.sl []))
 | [], _, j, oe, h => by cases h
 | (k, .ex e dp xs) :: l, h, j, oe, hm => by
  rcases List.mem_cons.1 hm with e | hm
  ·cases e; exact ⟨rfl, fun e h => by cases h⟩
  ·exact Zci (own := l) h j oe hm
 | (k, .app e) :: l, h, j, oe, hm => by
  simp only [Zlw, Bool.and_eq_true] at h
  rcases List.mem_cons.1 hm with e | hm
  ·cases e
   refine ⟨rfl, fun e _ => ?_⟩
   have := h.1
   split at this
   ·assumption
   ·cases this
  ·exact Zci h.2 j oe hm
 | (k, .al p π) :: l, h, j, oe, hm => by cases h
 | (k, .sb p π lo sz n) :: l, h, j, oe, hm => by cases h
theorem Zqc {X : Gh} {oe : OE} {u : Value} {F : List Nat} (h : Rs P X w oe u F) (hz : ∀ e, oe = .app e → Rel X w (.sl []) u) : ∀ b ∈ F, X b = some 0 := by
 cases oe with
 | app e =>
  obtain ⟨sz, n, us, h1, h2, rfl, h4⟩ := h
  obtain ⟨A, len, cap, hu, hl, _⟩ := hz e rfl
  have hn : n = 0 := by
   rcases h2.2 with ⟨e1, e2⟩ | ⟨g, cp, cur, e1, _⟩
   ·exact e2
   ·rw [hu] at e1; cases e1; simpa using hl
  subst hn
  intro b hb
  rw [h4 b hb]; simp
 | ex e dp xs => obtain ⟨e', sz, us, F', h0, h1, h2, h3, h4, rfl, h6, h7⟩ := h; exact h7
 | al q π => exact h.elim
 | sb q π lo sz n => exact h.elim
inductive OutK where
 | no
 | box (i k : Nat)
 | roots (i : Nat) (ps : List (Nat × OP))
 | seg (i : Nat) (p : OP) (e : TypeId) (xs : List (List AV)) (m off : Nat) (y : AV)
def Zl1 (tk : List Nat) : Look → Nat → List Operand → Option (Look × List Upd × List (Option AD) × OutK)
 | L, _, [] => some (L, [], [], .no)
 | L, i, x :: xs => match x with
  | .tmp t => match L.t t with
   | some (.v y, own) => match memN t tk with
    | true => match y.solid && Zlw y.cells own with
     | true => match Zl1 tk ((L.upd (.f (.t t))).upd (.t t (.v y, []))) (i + 1) xs with
      | some (L', us, gs, k) => some (L', .f (.t t) :: .t t (.v y, []) :: us, some (.v y own) :: gs, k)
      | none => none
     | false => none
    | false => match Zl1 tk L (i + 1) xs with
     | some (L', us, gs, k) => some (L', us, none :: gs, k)
     | none => none
   | some (.ptr k off, _) => match L.b k with
    | some (.cells cs own) => match Zlw cs own with
     | true => match Zl1 tk ((L.upd (.f (.b k))).noB k) (i + 1) xs with
      | some (L', us, gs, .no) => some (L', .f (.b k) :: us, some (.q off 0 cs own) :: gs, .box i k)
      | _ => none
     | false => none
    | _ => none
   | _ => match Zl1 tk L (i + 1) xs with
    | some (L', us, gs, k) => some (L', us, none :: gs, k)
    | none => none
  | _ => match Zl1 tk L (i + 1) xs with
   | some (L', us, gs, k) => some (L', us, none :: gs, k)
   | none => none
def Zds (P : Program) (G : Gho) (w : World) (a : Act) : Nat → List Operand → List (Option AD) → Prop
 | _, [], gs => gs = []
 | i, x :: xs, gs => ∃ g r, gs = g :: r ∧ (∀ q, g = some q → AIn P G.X w (Z25 G) i q (a.eval x)) ∧ Zds P G w a (i + 1) xs r
theorem Zds.stp (hS : Stp D w w G G') (hD : ∀ i j, ¬ D (.arg i j)) : ∀ {xs : List Operand} {i : Nat} {gs : List (Option AD)}, Zds P G w a i xs gs → Zds P G' w a i xs gs
 | [], i, gs, h => h
 | x :: xs, i, gs, ⟨g, r, e, h1, h2⟩ => ⟨g, r, e, fun q hq => (h1 q hq).stp hS hD, h2.stp hS hD⟩
def Zvu (t i : Nat) : LP → LP
 | .own (.t k j) => if k = t then .arg i (j + 1) else .own (.t k j)
 | l => l
def Zqw (k i : Nat) : LP → LP
 | .own (.b q j) => if q = k then .arg i (j + 1) else .own (.b q j)
 | .box q => if q = k then .arg i 0 else .box q
 | l => l
def DB (k : Nat) : LP → Prop
 | .own (.b q _) => q = k
 | .box q => q = k
 | _ => False
theorem Av.noB (L : Look) (k : Nat) : Av (DB k) ((L.upd (.f (.b k))).noB k) := by
 have key : Av (DR (.b k)) ((L.noB k).upd (.f (.b k))) := by
  refine Av.ref ?_ ?_ ?_
  ·intro s sv own hs _ j oe _ _ hd; exact hd
  ·intro i x hi _
   refine ⟨fun h => h.elim id id, fun cs own hx j oe _ _ hd => ?_⟩
   have : i = k := hd
   subst this
   simp [Look.noB] at hi
  ·intro i own _ _ j oe _ _ h; exact h
 have e : (L.upd (.f (.b k))).noB k = (L.noB k).upd (.f (.b k)) := by
  simp only [Look.noB, Look.upd]
  congr 1
  funext q
  by_cases e : q = k <;> simp [e]
 rw [e]
 have subp : ∀ {p : OP}, DB k (.own p) → DR (.b k) (.own p) := by
  intro p hh; cases p <;> first | exact hh | exact hh.elim
 have sub : ∀ {p : OP} {oe : OE}, okE (DR (.b k)) p oe → okE (DB k) p oe := by
  intro p oe h
  cases oe with
  | al q π => exact h.imp id fun h hh => h (subp hh)
  | app e => exact fun hh => h (subp hh)
  | ex e dp xs => exact fun hh => h (subp hh)
  | sb q π lo sz n => exact fun hh => h (subp hh)
 refine ⟨fun s sv own hs => ⟨?_, fun j oe hj => sub ((key.t s sv own hs).2 j oe hj)⟩, fun i x hi => ⟨?_, ?_⟩, fun i own hi j oe hj => sub (key.g i own hi j oe hj)⟩
 ·have h1 := (key.t s sv own hs).1
  cases sv with
  | v x => trivial
  | ptr d off => exact fun h => h
  | mp d => exact fun h => h
  | el p π i sz off => exact fun hh => h1 (subp hh)
 ·have hne : i ≠ k := by
   rintro rfl
   have := (f_b.1 hi).1
   simp [Look.noB] at this
  rintro (h | h)
  ·exact hne h
  ·exact h
 ·have h1 := (key.b i x hi).2
  cases x with
  | cells cs own => exact fun j oe hj => sub (h1 j oe hj)
  | map ks vs => trivial
  | part m cs => trivial
  | ref q => exact fun hh => h1 hh
def Upd.tame : Upd → Prop
 | .f _ => True
 | .t _ _ => True
 | _ => False
theorem Zs5 {q : Nat} : ∀ {us : List Upd} {L : Look}, (∀ u ∈ us, u.tame) → (L.noB q).upds us = (L.upds us).noB q
 | [], L, _ => rfl
 | u :: us, L, h => by
  show ((L.noB q).upd u).upds us = ((L.upd u).upds us).noB q
  rw [← Zs5 (L := L.upd u) (fun x hx => h x (by simp [hx]))]
  congr 1
  have := h u (by simp)
  cases u with
  | f r =>
   simp only [Look.noB, Look.upd]
   congr 1
   funext k
   by_cases e : k = q <;> simp [e]
  | t s e => rfl
  | b d e => exact this.elim
  | g i e => exact this.elim
theorem Zft {p : OP} {oe : OE} {u : Value} (h : Own P G w p oe u) (hw : oe.owner = true) : ∃ F, Rs P G.X w oe u F ∧ ∀ b ∈ F, G.lab b = some (.own p) := by
 cases oe with
 | app e => exact h.2
 | ex e dp xs => exact h.2
 | al q π => cases hw
 | sb q π lo sz n => cases hw
theorem Ze7 {tk : List Nat} : ∀ (xs : List Operand) (L : Look) (G : Gho) (i : Nat) (L' : Look) (us : List Upd) (gs : List (Option AD)) (k : OutK), Zl1 tk L i xs = some (L', us, gs, k) → Inv E L a w G →
  ∃ G' D, Stp D w w G G' ∧ (∀ i j, ¬ D (.arg i j)) ∧ Inv E L' a w G' ∧ Zds E.P G' w a i xs gs ∧ G'.bx = G.bx ∧ (∀ {D0}, Av D0 L → Av D0 L') ∧ (∀ u ∈ us, u.tame) ∧
   (match k with | .no => L' = L.upds us | .box m q => Av (DB q) L' ∧ L' = (L.upds us).noB q ∧ i ≤ m ∧ ∃ x off, xs[m - i]? = some x ∧ a.eval x = .pointer (some ⟨G.bx q, off, none⟩) | _ => False)
 | [], L, G, i, L', us, gs, k, h, hI => by
  simp only [Zl1] at h
  cases h
  exact ⟨G, fun _ => False, ⟨rfl, rfl, rfl, Nat.le_refl _, fun b _ _ => ⟨rfl, rfl, rfl⟩, Ext.refl _ _, fun b hb => (hI.new b hb).2, hI.new, fun b p hp => .inl ⟨p, hp⟩, fun _ _ => rfl, fun _ _ => rfl, ⟨fun _ _ => rfl, fun _ _ => rfl⟩⟩, fun _ _ h => h, hI, rfl, rfl, fun h => h, by simp, rfl⟩
 | x :: xs, L, G, i, L', us, gs, k, h, hI => by
  -- an operand that is not handed over
  have plain : ∀ {L' : Look} {us : List Upd} {gs : List (Option AD)} {k : OutK}, Zl1 tk L (i + 1) xs = some (L', us, gs, k) →
    ∃ G' D, Stp D w w G G' ∧ (∀ i j, ¬ D (.arg i j)) ∧ Inv E L' a w G' ∧ Zds E.P G' w a i (x :: xs) (none :: gs) ∧ G'.bx = G.bx ∧ (∀ {D0}, Av D0 L → Av D0 L') ∧ (∀ u ∈ us, u.tame) ∧
     (match k with | .no => L' = L.upds us | .box m q => Av (DB q) L' ∧ L' = (L.upds us).noB q ∧ i ≤ m ∧ ∃ z off, (x :: xs)[m - i]? = some z ∧ a.eval z = .pointer (some ⟨G.bx q, off, none⟩) | _ => False) := by
   intro L' us gs k h
   obtain ⟨G', D, h1, h2, h3, h4, h5, h6, hT, h7⟩ := Ze7 xs L G (i + 1) L' us gs k h hI
   refine ⟨G', D, h1, h2, h3, ⟨none, gs, rfl, (fun q hq => by cases hq), h4⟩, h5, h6, hT, ?_⟩
   cases k with
   | no => exact h7
   | box m q =>
    obtain ⟨h7', h7, h8, z, off, h9, h10⟩ := h7
    refine ⟨h7', h7, by omega, z, off, ?_, h10⟩
    rw [show m - i = (m - (i + 1)) + 1 by omega]; simpa using h9
   | roots _ _ => exact h7
   | seg _ _ _ _ _ _ _ => exact h7
  simp only [Zl1] at h
  split at h
  ·rename_i t
   split at h
   ·rename_i y own ht
    split at h
    ·split at h
     ·rename_i hown
      split at h
      ·rename_i L2 us2 gs2 k2 h2
       cases h
       rw [Bool.and_eq_true] at hown
       obtain ⟨hsol, hown⟩ := hown
       have hown := Zci hown
       obtain ⟨_, hr, hoo⟩ := hI.tm t _ _ ht
       obtain ⟨i1, a1⟩ := hI.clear ht
       have hS : Stp (DR (.t t)) w w G (G.relab (Zvu t i) G.pv) := Stp.relab hI (fun l hl => by
        cases l with
        | own p =>
         cases p with
         | t q j => simp only [DR] at hl; simp [Zvu, hl]
         | b q j => rfl
         | a q j => rfl
        | _ => rfl) (fun _ _ => rfl) (fun _ _ => rfl)
       have i2 := i1.step' a1 hS
       obtain ⟨G', D, h3, h4, h5, h6, h7, h8, hT, h9⟩ := Ze7 xs _ _ (i + 1) _ _ _ _ h2 i2
       have hin : AIn E.P (G.relab (Zvu t i) G.pv).X w (Z25 (G.relab (Zvu t i) G.pv)) i (.v y own) (a.eval (.tmp t)) := by
        refine ⟨hr, fun j oe hj => ?_⟩
        obtain ⟨c, hc, hoc⟩ := hoo j oe hj
        obtain ⟨F, hF1, hF2⟩ := Zft hoc (hown j oe hj).1
        have hfl : Value.flat (a.eval (.tmp t)) = (a.eval (.tmp t)).cells.toList := Z4j (Z3p (u := a.eval (.tmp t)) hr hsol)
        have hz := Zqc hF1 (fun e he => by
         obtain ⟨u', hu', hr'⟩ := (Z2t (u := a.eval (.tmp t)) hr hsol).get j ((hown j oe hj).2 e he)
         have hc' : (Value.flat (a.eval (.tmp t)))[j]? = some c := hc
         rw [hfl, hu'] at hc'
         cases hc'
         exact hr')
        exact ⟨(hown j oe hj).1, c, F, hc, hF1, fun b hb => Zdr (by simp [Gho.relab, hF2 b hb, Zvu]) (hz b hb)⟩
       refine ⟨G', fun q => DR (.t t) q ∨ D q, ?_, ?_, h5, ⟨_, _, rfl, (fun q hq => by cases hq; exact hin.stp h3 h4), h6⟩, h7, fun hD => h8 ((hD.f _).setT trivial (fun j oe hj => by cases hj)), (fun u hu => by
         rcases List.mem_cons.1 hu with rfl | hu
         ·trivial
         ·rcases List.mem_cons.1 hu with rfl | hu
          ·trivial
          ·exact hT u hu), ?_⟩
       ·refine ⟨h3.os.trans hS.os, h3.tape.trans hS.tape, h3.output.trans hS.output, Nat.le_trans hS.size h3.size, fun b hb hp => ?_, hS.ext.trans h3.ext, hS.was, h3.new, fun b p hp => ?_, fun d hd => ?_, fun p hp => ?_, ⟨fun i j => (h3.pin.1 i j).trans (hS.pin.1 i j), fun d hd => (h3.pin.2 d hd).trans (hS.pin.2 d hd)⟩⟩
        ·obtain ⟨s1, s2, s3⟩ := hS.same b hb (fun p hl hd => hp p hl (.inl hd))
         obtain ⟨r1, r2, r3⟩ := h3.same b (Nat.lt_of_lt_of_le hb hS.size) (fun p hl hd => hp p (s3 ▸ hl) (.inr hd))
         exact ⟨r1.trans s1, r2.trans s2, r3.trans s3⟩
        ·rcases h3.may b p hp with ⟨q, hq⟩ | hq
         ·exact hS.may b q hq
         ·exact .inr hq
        ·exact (h3.bx d (fun h => hd (.inr h))).trans (hS.bx d (fun h => hd (.inl h)))
        ·exact (h3.pv p (fun h => hp (.inr h))).trans (hS.pv p (fun h => hp (.inl h)))
       ·rintro i j (hh | hh)
        ·exact hh
        ·exact h4 i j hh
       ·cases k with
        | no => exact h9
        | box m q =>
         obtain ⟨h9', h9, h10, z, off, h11, h12⟩ := h9
         refine ⟨h9', h9, by omega, z, off, ?_, h12⟩
         rw [show m - i = (m - (i + 1)) + 1 by omega]; simpa using h11
        | roots _ _ => exact h9
        | seg _ _ _ _ _ _ _ => exact h9
      ·cases h
     ·cases h
    ·split at h
     ·rename_i h2; cases h; exact plain h2
     ·cases h
   ·rename_i q off own1 ht
    split at h
    ·rename_i cs own hb
     split at h
     ·rename_i hown
      split at h
      ·rename_i L2 us2 gs2 h2
       cases h
       have hown := Zci hown
       have hu : a.eval (.tmp t) = .pointer (some ⟨G.bx q, off, none⟩) := (hI.tm t _ _ ht).2.1
       obtain ⟨hX, hl, us0, e, hheap, hok⟩ := hI.bo q _ hb
       have i1 := (hI.forget (.b q)).less (Sub.noB _ q)
       have a1 := Av.noB L q
       have hS : Stp (DB q) w w G (G.relab (Zqw q i) G.pv) := Stp.relab hI (fun l hl => by
        cases l with
        | own p =>
         cases p with
         | t q j => rfl
         | b q j => simp only [DB] at hl; simp [Zqw, hl]
         | a q j => rfl
        | box k => simp only [DB] at hl; simp [Zqw, hl]
        | ptr k => rfl
        | arg i j => rfl) (fun _ _ => rfl) (fun _ _ => rfl)
       have i2 := i1.step' a1 hS
       obtain ⟨G', D, h3, h4, h5, h6, h7, h8, hT, h9⟩ := Ze7 xs _ _ (i + 1) _ _ _ _ h2 i2
       have hin : AIn E.P (G.relab (Zqw q i) G.pv).X w (Z25 (G.relab (Zqw q i) G.pv)) i (.q off 0 cs own) (a.eval (.tmp t)) := by
        refine ⟨G.bx q, us0, e, hu, Zdr (by simp [Gho.relab, hl, Zqw]) hX, hX, hheap, hok.rel, fun j oe hj => ?_⟩
        obtain ⟨c, hc, hoc⟩ := hok.own j oe hj
        obtain ⟨F, hF1, hF2⟩ := Zft hoc (hown j oe hj).1
        have hz := Zqc hF1 (fun e he => by
         obtain ⟨u', hu', hr'⟩ := hok.rel.get j ((hown j oe hj).2 e he)
         rw [Array.getElem?_toList, hc] at hu'
         cases hu'
         exact hr')
        exact ⟨(hown j oe hj).1, c, F, by simpa using hc, hF1, fun b hb => Zdr (by simp [Gho.relab, hF2 b hb, Zqw]) (hz b hb)⟩
       refine ⟨G', fun l => DB q l ∨ D l, ?_, ?_, h5, ⟨_, _, rfl, (fun z hz => by cases hz; exact hin.stp h3 h4), h6⟩, h7, fun hD => h8 ?_, (fun u hu => by
         rcases List.mem_cons.1 hu with rfl | hu
         ·trivial
         ·exact hT u hu), ?_⟩
       ·refine ⟨h3.os.trans hS.os, h3.tape.trans hS.tape, h3.output.trans hS.output, Nat.le_trans hS.size h3.size, fun b hb hp => ?_, hS.ext.trans h3.ext, hS.was, h3.new, fun b p hp => ?_, fun d hd => ?_, fun p hp => ?_, ⟨fun i j => (h3.pin.1 i j).trans (hS.pin.1 i j), fun d hd => (h3.pin.2 d hd).trans (hS.pin.2 d hd)⟩⟩
        ·obtain ⟨s1, s2, s3⟩ := hS.same b hb (fun p hl hd => hp p hl (.inl hd))
         obtain ⟨r1, r2, r3⟩ := h3.same b (Nat.lt_of_lt_of_le hb hS.size) (fun p hl hd => hp p (s3 ▸ hl) (.inr hd))
         exact ⟨r1.trans s1, r2.trans s2, r3.trans s3⟩
        ·rcases h3.may b p hp with ⟨q, hq⟩ | hq
         ·exact hS.may b q hq
         ·exact .inr hq
        ·exact (h3.bx d (fun h => hd (.inr h))).trans (hS.bx d (fun h => hd (.inl h)))
        ·exact (h3.pv p (fun h => hp (.inr h))).trans (hS.pv p (fun h => hp (.inl h)))
       ·rintro i j (hh | hh)
        ·exact hh
        ·exact h4 i j hh
       ·have := hD.f (.b q)
        refine ⟨this.t, fun k x hk => this.b k x ?_, this.g⟩
        simp only [Look.noB] at hk
        split at hk
        ·cases hk
        ·exact hk
       ·simp only at h9
        refine ⟨h8 a1, ?_, Nat.le_refl _, .tmp t, off, by simp, hu⟩
        rw [h9, Zs5 hT]
        rfl
      ·cases h
     ·cases h
    ·cases h
   ·split at h
    ·rename_i h2; cases h; exact plain h2
    ·cases h
  ·split at h
   ·rename_i h2; cases h; exact plain h2
   ·cases h
end Go.Bv

namespace Go.Bv
open Go.RowKit
variable {E : Env} {P : Program} {n : Nat} {L L' : Look} {a : Act} {w w' : World} {G G' : Gho} {D D' : LP → Prop} {o : Oper} {d : Nat} {h : Hint} {ups : List Upd} {obs : List Prop}
def Ztj (L : Look) (h : Hint) (t : Nat) (own : OwnL) : Nat → List AV → Option (List AV × Bool × List Prop)
 | _, [] => some ([], false, [])
 | j, c :: cs => match Ztj L h t own (j + 1) cs with
  | some (r, b, ob) => match lkO own j with
   | none => some (c :: r, b, ob)
   | some (.app _) => some (c :: r, b, ob)
   | some (.ex _ _ xs) => match c with | .slx => some (.sl xs :: r, true, ob) | _ => none
   | some (.al p π) => match c, Zg5 L p π h with | .slx, some (_, xs, ob') => some (.sl xs :: r, true, ob' ++ ob) | _, _ => none
   | some _ => none
  | none => none
def Zsx (L : Look) (h : Hint) (x : Operand) : Option (AV × Bool × List Prop) :=
 match x with
 | .tmp t => match L.t t with
  | some (.v (.agg cs), own) => match Ztj L h t own 0 cs with | some (cs', b, ob) => some (.agg cs', b, ob) | none => none
  | some (.v .slx, own) => match Ztj L h t own 0 [.slx] with | some ([c], b, ob) => some (c, b, ob) | _ => none
  | some (.v y, _) => some (y, false, [])
  | _ => none
 | x => match evV L x with | some y => some (y, false, []) | none => none
theorem Zgy (hI : Inv E L a w G) {t : Nat} {own : OwnL} : ∀ (cs : List AV) (j : Nat) (cs' : List AV) (b : Bool) (ob : List Prop) (us : List Value), Ztj L h t own j cs = some (cs', b, ob) → (∀ p ∈ ob, p) → RelL G.X w cs us →
  (∀ i oe, (j + i, oe) ∈ own → i < cs.length → ∃ c, us[i]? = some c ∧ Own E.P G w (.t t (j + i)) oe c) → RelL G.open w cs' us ∧ (b = false → RelL G.X w cs' us)
 | [], j, cs', b, ob, us, hf, hob, hr, _ => by
  simp only [Ztj] at hf; cases hf
  exact ⟨hr, fun _ => hr⟩
 | c :: cs, j, cs', b, ob, us, hf, hob, ⟨u, r, e, hu, hr⟩, ho => by
  subst e
  simp only [Ztj] at hf
  split at hf
  ·rename_i r' b' ob' hf'
   have tail : (∀ p ∈ ob', p) → RelL G.open w r' r ∧ (b' = false → RelL G.X w r' r) := fun hob' => Zgy hI cs (j + 1) r' b' ob' r hf' hob' hr (fun i oe hi hlt => by
    obtain ⟨c, hc, h⟩ := ho (i + 1) oe (by rw [show j + (i + 1) = j + 1 + i by omega]; exact hi) (by simpa using hlt)
    exact ⟨c, by simpa using hc, by rw [show j + 1 + i = j + (i + 1) by omega]; exact h⟩)
   have same : (∀ p ∈ ob', p) → RelL G.open w (c :: r') (u :: r) ∧ (b' = false → RelL G.X w (c :: r') (u :: r)) := fun hob' => by
    obtain ⟨h1, h2⟩ := tail hob'
    exact ⟨⟨u, r, rfl, Rel.mono Z9h _ _ hu, h1⟩, fun hb => ⟨u, r, rfl, hu, h2 hb⟩⟩
   split at hf
   ·cases hf; exact same hob
   ·cases hf; exact same hob
   ·rename_i e dp xs hl
    split at hf
    ·cases hf
     obtain ⟨c, hc, hoc⟩ := ho 0 _ (Z3x hl) (by simp)
     simp at hc; subst hc
     exact ⟨⟨u, r, rfl, (Zmt hoc).rel, (tail hob).1⟩, fun h => by cases h⟩
    ·cases hf
   ·rename_i p π hl
    split at hf
    ·rename_i dp xs ob2 hc2
     cases hf
     obtain ⟨c, hc, hoc⟩ := ho 0 _ (Z3x hl) (by simp)
     simp at hc; subst hc
     have hh := Z8y hI hc2 (fun q hq => hob q (by simp [hq])) hoc.1
     exact ⟨⟨u, r, rfl, hh.rel, (tail (fun p hp => hob p (by simp [hp]))).1⟩, fun h => by cases h⟩
    ·cases hf
   ·cases hf
  ·cases hf
theorem Zsw (hI : Inv E L a w G) {x : Operand} {y : AV} {b : Bool} {ob : List Prop} (hv : Zsx L h x = some (y, b, ob)) (hob : ∀ p ∈ ob, p) : Rel G.open w y (a.eval x) ∧ (b = false → Rel G.X w y (a.eval x)) := by
 have plain : ∀ {x : Operand} {y : AV}, evV L x = some y → Rel G.open w y (a.eval x) ∧ (false = false → Rel G.X w y (a.eval x)) := fun h => ⟨Rel.mono Z9h _ _ (Z2k hI h), fun _ => Z2k hI h⟩
 cases x with
 | tmp t =>
  simp only [Zsx] at hv
  split at hv
  ·rename_i cs own ht
   obtain ⟨_, ⟨us, hu, hr⟩, hoo⟩ := hI.tm t _ _ ht
   split at hv
   ·rename_i cs' b' ob' hf
    cases hv
    obtain ⟨h1, h2⟩ := Zgy hI cs 0 cs' b ob us hf hob hr (fun i oe hi _ => by
     obtain ⟨c, hc, hoc⟩ := hoo _ oe hi
     rw [hu] at hc
     rw [Nat.zero_add] at hc
     exact ⟨c, by simpa [Value.flat, Value.cells] using hc, hoc⟩)
    exact ⟨⟨us, hu, h1⟩, fun hb => ⟨us, hu, h2 hb⟩⟩
   ·cases hv
  ·rename_i own ht
   obtain ⟨_, ⟨A, l, k, hu⟩, hoo⟩ := hI.tm t _ _ ht
   have hu' : a.eval (.tmp t) = .slice A l k := hu
   split at hv
   ·rename_i c' b' ob' hf
    cases hv
    obtain ⟨h1, h2⟩ := Zgy hI [.slx] 0 [y] b ob [a.eval (.tmp t)] hf hob ⟨_, [], rfl, ⟨A, l, k, hu'⟩, rfl⟩ (fun i oe hi hlt => by
     obtain ⟨c, hc, hoc⟩ := hoo _ oe hi
     have hi0 : i = 0 := by simpa using hlt
     subst hi0
     have hc' : (Value.flat (a.eval (.tmp t)))[0 + 0]? = some c := hc
     rw [hu'] at hc'
     simp [Value.flat, Value.cells] at hc'
     exact ⟨c, by rw [hu']; simp [hc'], hoc⟩)
    obtain ⟨u, r, e, h3, _⟩ := h1
    cases e
    refine ⟨h3, fun hb => ?_⟩
    obtain ⟨u, r, e, h4, _⟩ := h2 hb
    cases e
    exact h4
   ·cases hv
  ·rename_i z own h1 h2 ht
   cases hv
   have hr := (hI.tm t _ _ ht).2.1
   exact ⟨Rel.mono Z9h _ _ hr, fun _ => hr⟩
  ·cases hv
 | const v =>
  simp only [Zsx] at hv
  split at hv
  ·rename_i he; cases hv; exact plain he
  ·cases hv
 | func v =>
  simp only [Zsx] at hv
  split at hv
  ·rename_i he; cases hv; exact plain he
  ·cases hv
 | global v =>
  simp only [Zsx] at hv
  split at hv
  ·rename_i he; cases hv; exact plain he
  ·cases hv
def Zpr (L : Look) (h : Hint) : List Operand → List (Option AD) → Option (List AD × Bool × List Prop)
 | [], [] => some ([], false, [])
 | x :: xs, g :: gs => match Zpr L h xs gs with
  | some (as, b, ob) => match g with
   | some q => some (q :: as, b, ob)
   | none => match Zsx L h x with
    | some (y, b', ob') => some (.v y [] :: as, b' || b, ob' ++ ob)
    | none => none
  | none => none
 | _, _ => none
theorem Zf5 (hI : Inv E L a w G) : ∀ (xs : List Operand) (gs : List (Option AD)) (i : Nat) (as : List AD) (b : Bool) (ob : List Prop), Zpr L h xs gs = some (as, b, ob) → (∀ p ∈ ob, p) → Zds E.P G w a i xs gs →
  AIns E.P G.open w (Z25 G) i as (xs.map a.eval) ∧ (b = false → AIns E.P G.X w (Z25 G) i as (xs.map a.eval))
 | [], gs, i, as, b, ob, hf, hob, hF => by
  rw [show gs = [] from hF] at hf
  simp only [Zpr] at hf; cases hf
  exact ⟨rfl, fun _ => rfl⟩
 | x :: xs, gs, i, as, b, ob, hf, hob, ⟨g, r, e, h1, h2⟩ => by
  subst e
  simp only [Zpr] at hf
  split at hf
  ·rename_i as' b' ob' hf'
   cases g with
   | some q =>
    simp only [] at hf
    cases hf
    obtain ⟨h3, h4⟩ := Zf5 hI xs r (i + 1) as' b ob hf' hob h2
    exact ⟨⟨_, _, rfl, (h1 q rfl).open_, h3⟩, fun hb => ⟨_, _, rfl, h1 q rfl, h4 hb⟩⟩
   | none =>
    simp only [] at hf
    split at hf
    ·rename_i y b2 ob2 hv
     cases hf
     obtain ⟨h3, h4⟩ := Zf5 hI xs r (i + 1) as' b' ob' hf' (fun p hp => hob p (by simp [hp])) h2
     obtain ⟨h5, h6⟩ := Zsw hI hv (fun p hp => hob p (by simp [hp]))
     refine ⟨⟨_, _, rfl, ⟨h5, fun j oe hj => by cases hj⟩, h3⟩, fun hb => ?_⟩
     simp only [Bool.or_eq_false_iff] at hb
     exact ⟨_, _, rfl, ⟨h6 hb.1, fun j oe hj => by cases hj⟩, h4 hb.2⟩
    ·cases hf
  ·cases hf
theorem AIns.append {X : Gh} {lab : Lab} : ∀ {i : Nat} {as bs : List AD} {us vs : List Value}, AIns P X w lab i as us → AIns P X w lab (i + as.length) bs vs → AIns P X w lab i (as ++ bs) (us ++ vs)
 | i, [], bs, us, vs, h, h' => by rw [show us = [] from h]; exact h'
 | i, q :: as, bs, us, vs, ⟨u, r, e, h1, h2⟩, h' => by
  subst e
  exact ⟨u, r ++ vs, rfl, h1, h2.append (by rw [show i + 1 + as.length = i + (q :: as).length by simp; omega]; exact h')⟩
theorem AIns.plain {X : Gh} {lab : Lab} : ∀ {i : Nat} {vs : List AV} {us : List Value}, RelL X w vs us → AIns P X w lab i (vs.map fun v => .v v []) us
 | i, [], us, h => h
 | i, v :: vs, us, ⟨u, r, e, h1, h2⟩ => ⟨u, r, e, ⟨h1, fun j oe hj => by cases hj⟩, AIns.plain h2⟩
def rmO : OwnL → Nat → OwnL
 | [], _ => []
 | (k, x) :: l, j => match Nat.beq k j with | true => rmO l j | false => (k, x) :: rmO l j
theorem Zdh {j : Nat} : ∀ {own : OwnL} {k : Nat} {x : OE}, (k, x) ∈ rmO own j → (k, x) ∈ own ∧ k ≠ j
 | [], k, x, h => by cases h
 | (i, y) :: l, k, x, h => by
  simp only [rmO] at h
  split at h
  ·obtain ⟨h1, h2⟩ := Zdh h; exact ⟨List.mem_cons_of_mem _ h1, h2⟩
  ·rename_i hb
   rcases List.mem_cons.1 h with h | h
   ·cases h; exact ⟨List.mem_cons_self, Z57 hb⟩
   ·obtain ⟨h1, h2⟩ := Zdh h; exact ⟨List.mem_cons_of_mem _ h1, h2⟩
def Look.rmP (L : Look) : OP → Look
 | .t s j => { L with t := fun k => if k = s then (L.t k).map fun e => (e.1, rmO e.2 j) else L.t k }
 | .b d j => { L with b := fun k => if k = d then (L.b k).map fun e => (match e with | .cells cs own => .cells cs (rmO own j) | e => e) else L.b k }
 | .a i j => { L with g := fun k => if k = i then (L.g k).map fun e => rmO e j else L.g k }
structure NoRef (r : Ref) (L : Look) : Prop where
 t : ∀ k e, L.t k = some e → Zfl r e = false
 b : ∀ k x, L.b k = some x → Zi1 r x = false
 g : ∀ k own, L.g k = some own → Z4l r own = false
theorem NoRef.of (r : Ref) (L : Look) : NoRef r (L.upd (.f r)) := ⟨fun k e h => (f_t.1 h).2, fun k x h => (f_b.1 h).2, fun k x h => (f_g.1 h).2⟩
theorem NoRef.f {r : Ref} (h : NoRef r L) (r' : Ref) : NoRef r (L.upd (.f r')) := ⟨fun k e hk => h.t k e (f_t.1 hk).1, fun k x hk => h.b k x (f_b.1 hk).1, fun k x hk => h.g k x (f_g.1 hk).1⟩
theorem Zd5 {r : Ref} {j : Nat} : ∀ {own : OwnL}, Z4l r own = false → Z4l r (rmO own j) = false
 | [], h => h
 | (k, y) :: l, h => by
  simp only [Z4l, Bool.or_eq_false_iff] at h
  simp only [rmO]
  split
  ·exact Zd5 h.2
  ·simp only [Z4l, Bool.or_eq_false_iff]; exact ⟨h.1, Zd5 h.2⟩
theorem Zxq {p : OP} {k : Nat} {sv : SV} {own : OwnL} (h : (L.rmP p).t k = some (sv, own)) : ∃ own0, L.t k = some (sv, own0) ∧ (∀ j oe, (j, oe) ∈ own → (j, oe) ∈ own0 ∧ .t k j ≠ p) ∧ ∀ r, Z4l r own0 = false → Z4l r own = false := by
 cases p with
 | t s i =>
  simp only [Look.rmP] at h
  split at h
  ·rename_i hk
   simp only [Option.map_eq_some_iff] at h
   obtain ⟨⟨sv0, own0⟩, h1, h2⟩ := h
   cases h2
   exact ⟨own0, h1, fun j oe hj => ⟨(Zdh hj).1, fun e => by cases e; exact (Zdh hj).2 rfl⟩, fun r hr => Zd5 hr⟩
  ·rename_i hk
   exact ⟨own, h, fun j oe hj => ⟨hj, fun e => by cases e; exact hk rfl⟩, fun r hr => hr⟩
 | b s i => exact ⟨own, h, fun j oe hj => ⟨hj, fun e => by cases e⟩, fun r hr => hr⟩
 | a s i => exact ⟨own, h, fun j oe hj => ⟨hj, fun e => by cases e⟩, fun r hr => hr⟩
def BX.lessP (p : OP) (k : Nat) : BX → BX → Prop
 | .cells cs own, .cells cs' own0 => cs = cs' ∧ ∀ j oe, (j, oe) ∈ own → (j, oe) ∈ own0 ∧ OP.b k j ≠ p
 | .map a b, .map a' b' => a = a' ∧ b = b'
 | .ref a, .ref a' => a = a'
 | .part m c, .part m' c' => m = m' ∧ c = c'
 | _, _ => False
theorem Zxt {p : OP} {k : Nat} {x : BX} (h : (L.rmP p).b k = some x) : ∃ y, L.b k = some y ∧ BX.lessP p k x y ∧ ∀ r, Zi1 r y = false → Zi1 r x = false := by
 have same : ∀ {x : BX}, (∀ j, OP.b k j ≠ p) → L.b k = some x → ∃ y, L.b k = some y ∧ BX.lessP p k x y ∧ ∀ r, Zi1 r y = false → Zi1 r x = false := by
  intro x hne hx
  refine ⟨x, hx, ?_, fun r h => h⟩
  cases x with
  | cells cs own => exact ⟨rfl, fun j oe hj => ⟨hj, hne j⟩⟩
  | map ks vs => exact ⟨rfl, rfl⟩
  | part m cs => exact ⟨rfl, rfl⟩
  | ref q => exact rfl
 cases p with
 | b s i =>
  simp only [Look.rmP] at h
  split at h
  ·rename_i hk
   simp only [Option.map_eq_some_iff] at h
   obtain ⟨y, h1, h2⟩ := h
   refine ⟨y, h1, ?_⟩
   subst h2
   cases y with
   | cells cs own => exact ⟨⟨rfl, fun j oe hj => ⟨(Zdh hj).1, fun e => by cases e; exact (Zdh hj).2 rfl⟩⟩, fun r hr => Zd5 hr⟩
   | map ks vs => exact ⟨⟨rfl, rfl⟩, fun r hr => hr⟩
   | part m cs => exact ⟨⟨rfl, rfl⟩, fun r hr => hr⟩
   | ref q => exact ⟨rfl, fun r hr => hr⟩
  ·rename_i hk
   exact same (fun j e => by cases e; exact hk rfl) h
 | t s i => exact same (fun j e => by cases e) h
 | a s i => exact same (fun j e => by cases e) h
theorem Zxs {p : OP} {k : Nat} {own : OwnL} (h : (L.rmP p).g k = some own) : ∃ own0, L.g k = some own0 ∧ (∀ j oe, (j, oe) ∈ own → (j, oe) ∈ own0 ∧ .a k j ≠ p) ∧ ∀ r, Z4l r own0 = false → Z4l r own = false := by
 cases p with
 | a s i =>
  simp only [Look.rmP] at h
  split at h
  ·rename_i hk
   simp only [Option.map_eq_some_iff] at h
   obtain ⟨own0, h1, h2⟩ := h
   cases h2
   exact ⟨own0, h1, fun j oe hj => ⟨(Zdh hj).1, fun e => by cases e; exact (Zdh hj).2 rfl⟩, fun r hr => Zd5 hr⟩
  ·rename_i hk
   exact ⟨own, h, fun j oe hj => ⟨hj, fun e => by cases e; exact hk rfl⟩, fun r hr => hr⟩
 | b s i => exact ⟨own, h, fun j oe hj => ⟨hj, fun e => by cases e⟩, fun r hr => hr⟩
 | t s i => exact ⟨own, h, fun j oe hj => ⟨hj, fun e => by cases e⟩, fun r hr => hr⟩
theorem NoRef.rmP {r : Ref} (h : NoRef r L) (p : OP) : NoRef r (L.rmP p) := by
 refine ⟨fun k e hk => ?_, fun k x hk => ?_, fun k own hk => ?_⟩
 ·obtain ⟨sv, own⟩ := e
  obtain ⟨own0, h1, _, h3⟩ := Zxq hk
  have := h.t k _ h1
  simp only [Zfl, Bool.or_eq_false_iff] at this ⊢
  exact ⟨this.1, h3 r this.2⟩
 ·obtain ⟨y, h1, _, h3⟩ := Zxt hk
  exact h3 r (h.b k y h1)
 ·obtain ⟨own0, h1, _, h3⟩ := Zxs hk
  exact h3 r (h.g k _ h1)
theorem Sub.rmP (p : OP) (L : Look) : Sub (fun _ => False) (L.rmP p) L := by
 refine ⟨fun k sv own hk => ?_, fun k x hk => ⟨(fun h => h.elim id id), ?_⟩, fun k own hk => ?_⟩
 ·obtain ⟨own0, h1, h2, _⟩ := Zxq hk
  exact ⟨own0, h1, Z7o, fun j oe hj => ⟨(h2 j oe hj).1, Z1i⟩⟩
 ·obtain ⟨y, h1, h2, _⟩ := Zxt hk
  refine ⟨y, h1, ?_⟩
  cases x with
  | cells cs own => cases y with
   | cells cs' own' => exact ⟨h2.1, fun j oe hj => ⟨(h2.2 j oe hj).1, Z1i⟩⟩
   | map ks vs => exact h2.elim
   | part m cs => exact h2.elim
   | ref q => exact h2.elim
  | map ks vs => cases y with
   | map ks vs => exact h2
   | _ => exact h2.elim
  | part m cs => cases y with
   | part m cs => exact h2
   | _ => exact h2.elim
  | ref q => cases y with
   | cells cs' own' => exact h2.elim
   | map ks vs => exact h2.elim
   | part m cs => exact h2.elim
   | ref q' => exact ⟨h2, fun h => h⟩
 ·obtain ⟨own0, h1, h2, _⟩ := Zxs hk
  exact ⟨own0, h1, fun j oe hj => ⟨(h2 j oe hj).1, Z1i⟩⟩
theorem Inv.rmP (hI : Inv E L a w G) {p : OP} (hn : NoRef (Z6l p) L) : Inv E (L.rmP p) a w G ∧ Av (fun q => q = .own p) (L.rmP p) := by
 refine ⟨hI.less (Sub.rmP p L), ⟨fun k sv own hk => ?_, fun k x hk => ⟨(by rintro (e | e) <;> cases e), ?_⟩, fun k own hk j oe hj => ?_⟩⟩
 ·obtain ⟨own0, h1, h2, _⟩ := Zxq hk
  have h4 := hn.t k _ h1
  simp only [Zfl, Bool.or_eq_false_iff] at h4
  exact ⟨Zv6 h4.1, fun j oe hj => Zjh (Zi h4.2 j oe (h2 j oe hj).1) (fun _ => (h2 j oe hj).2)⟩
 ·obtain ⟨y, h1, h2, _⟩ := Zxt hk
  have h4 := hn.b k _ h1
  cases x with
  | map ks vs => trivial
  | part m cs => trivial
  | ref q => exact fun e => by cases e
  | cells cs own => cases y with
   | map ks vs => exact h2.elim
   | part m cs => exact h2.elim
   | ref q => exact h2.elim
   | cells cs' own' => exact fun j oe hj => Zjh (Zi h4 j oe (h2.2 j oe hj).1) (fun _ => (h2.2 j oe hj).2)
 ·obtain ⟨own0, h1, h2, _⟩ := Zxs hk
  have h4 := hn.g k _ h1
  exact Zjh (Zi h4 j oe (h2 j oe hj).1) (fun _ => (h2 j oe hj).2)
theorem Av.rmP (h : Av D L) (p : OP) : Av D (L.rmP p) := by
 refine ⟨fun k sv own hk => ?_, fun k x hk => ?_, fun k own hk j oe hj => ?_⟩
 ·obtain ⟨own0, h1, h2, _⟩ := Zxq hk
  exact ⟨(h.t k sv own0 h1).1, fun j oe hj => (h.t k sv own0 h1).2 j oe (h2 j oe hj).1⟩
 ·obtain ⟨y, h1, h2, _⟩ := Zxt hk
  refine ⟨(h.b k y h1).1, ?_⟩
  have h3 := (h.b k y h1).2
  cases x with
  | map ks vs => trivial
  | part m cs => trivial
  | ref q => cases y with
   | cells cs' own' => exact h2.elim
   | map ks vs => exact h2.elim
   | part m cs => exact h2.elim
   | ref q' => exact (show q = q' from h2) ▸ h3
  | cells cs own => cases y with
   | map ks vs => exact h2.elim
   | part m cs => exact h2.elim
   | ref q => exact h2.elim
   | cells cs' own' => exact fun j oe hj => h3 j oe (h2.2 j oe hj).1
 ·obtain ⟨own0, h1, h2, _⟩ := Zxs hk
  exact h.g k own0 h1 j oe (h2 j oe hj).1
def Look.setP (L : Look) (p : OP) (x : OE) : Look :=
 match p with
 | .t s j => { L with t := fun k => if k = s then (L.t k).map fun e => (e.1, setO e.2 j x) else L.t k }
 | .b d j => { L with b := fun k => if k = d then (L.b k).map fun e => (match e with | .cells cs own => .cells cs (setO own j x) | e => e) else L.b k }
 | .a i j => { L with g := fun k => if k = i then (L.g k).map fun e => setO e j x else L.g k }
theorem Zj5 {p : OP} {x : OE} {us : List Upd} (h : putO L p x = some us) : L.upds us = L.setP p x := by
 cases p with
 | t s j =>
  simp only [putO] at h
  split at h
  ·rename_i sv own hs
   cases h
   simp only [Look.upds, List.foldl_cons, List.foldl_nil, Look.upd, Look.setP]
   congr 1
   funext k
   by_cases e : k = s
   ·subst e; simp [hs]
   ·simp [e]
  ·cases h
 | b s j =>
  simp only [putO] at h
  split at h
  ·rename_i cs own hs
   cases h
   simp only [Look.upds, List.foldl_cons, List.foldl_nil, Look.upd, Look.setP]
   congr 1
   funext k
   by_cases e : k = s
   ·subst e; simp [hs]
   ·simp [e]
  ·cases h
 | a s j =>
  simp only [putO] at h
  split at h
  ·rename_i own hs
   cases h
   simp only [Look.upds, List.foldl_cons, List.foldl_nil, Look.upd, Look.setP]
   congr 1
   funext k
   by_cases e : k = s
   ·subst e; simp [hs]
   ·simp [e]
  ·cases h
theorem Zdx {i j : Nat} {x : OE} (h : i ≠ j) : ∀ (own : OwnL), rmO (setO own j x) i = setO (rmO own i) j x
 | [] => rfl
 | (k, y) :: l => by
  simp only [setO]
  cases hj : Nat.beq k j with
  | true =>
   have hkj := Nat.eq_of_beq_eq_true hj
   have hki : Nat.beq k i = false := by
    cases hb : Nat.beq k i with
    | false => rfl
    | true => exact absurd (Nat.eq_of_beq_eq_true hb) (fun e => h (e ▸ hkj))
   simp only [rmO, hki, setO, hj, Zdx h l]
  | false =>
   cases hi : Nat.beq k i with
   | true => simp only [rmO, hi, Zdx h l]
   | false => simp only [rmO, hi, setO, hj, Zdx h l]
theorem Zxr {p q : OP} {x : OE} (h : p ≠ q) : (L.rmP p).setP q x = (L.setP q x).rmP p := by
 cases p with
 | t s i => cases q with
  | t r j =>
   simp only [Look.rmP, Look.setP]
   congr 1
   funext k
   by_cases e1 : k = s
   ·by_cases e2 : k = r
    ·subst e1; subst e2
     have hij : i ≠ j := fun e => h (by rw [e])
     simp only [if_true, Option.map_map]
     congr 1
     funext z
     simp [Zdx hij]
    ·subst e1; simp [e2]
   ·by_cases e2 : k = r
    ·subst e2; simp [e1]
    ·simp [e1, e2]
  | b r j => rfl
  | a r j => rfl
 | b s i => cases q with
  | b r j =>
   simp only [Look.rmP, Look.setP]
   congr 1
   funext k
   by_cases e1 : k = s
   ·by_cases e2 : k = r
    ·subst e1; subst e2
     have hij : i ≠ j := fun e => h (by rw [e])
     simp only [if_true, Option.map_map]
     congr 1
     funext z
     cases z <;> simp [Zdx hij]
    ·subst e1; simp [e2]
   ·by_cases e2 : k = r
    ·subst e2; simp [e1]
    ·simp [e1, e2]
  | t r j => rfl
  | a r j => rfl
 | a s i => cases q with
  | a r j =>
   simp only [Look.rmP, Look.setP]
   congr 1
   funext k
   by_cases e1 : k = s
   ·by_cases e2 : k = r
    ·subst e1; subst e2
     have hij : i ≠ j := fun e => h (by rw [e])
     simp only [if_true, Option.map_map]
     congr 1
     funext z
     simp [Zdx hij]
    ·subst e1; simp [e2]
   ·by_cases e2 : k = r
    ·subst e2; simp [e1]
    ·simp [e1, e2]
  | t r j => rfl
  | b r j => rfl
def Zi0 (E : Env) (a : Act) (w : World) (G : Gho) : OP → Prop
 | .t s j => (Value.flat (a.tmps.getD s undef))[j]? = some (G.pv (.t s j))
 | .b d j => w.cell? ⟨G.bx d, j, none⟩ = some (G.pv (.b d j))
 | .a i j => True
theorem Inv.rootAt (hI : Inv E L a w G) {p : OP} {oe : OE} (h : Z6c L p = some oe) (hw : oe.owner = true) : Zi0 E a w G p := by
 cases p with
 | t s j =>
  simp only [Z6c] at h
  split at h
  ·rename_i sv own hs
   obtain ⟨u, hu, ho⟩ := (hI.tm s sv own hs).2.2 j oe (Z3x h)
   show _ = _
   rw [ho.pv hw]; exact hu
  ·cases h
 | b s j =>
  simp only [Z6c] at h
  split at h
  ·rename_i cs own hs
   obtain ⟨_, _, us, e, h3, h4⟩ := hI.bo s _ hs
   obtain ⟨u, hu, ho⟩ := h4.own j oe (Z3x h)
   show _ = _
   rw [ho.pv hw, Z4u h3]; exact hu
  ·cases h
 | a s j => trivial
theorem Inv.back {p : OP} {x : OE} (hI : Inv E (L.rmP p) a w G) (hat : Zi0 E a w G p) (ho : Own E.P G w p x (G.pv p)) : Inv E (L.setP p x) a w G := by
 have mem : ∀ {own : OwnL} {j i : Nat} {oe : OE}, (i, oe) ∈ setO own j x → (i = j ∧ oe = x) ∨ (i, oe) ∈ rmO own j := by
  intro own j i oe hm
  rcases Zas hm with h | ⟨h1, h2⟩
  ·exact .inl h
  ·refine .inr ?_
   clear hm
   induction own with
   | nil => cases h2
   | cons q l ih =>
    obtain ⟨k, y⟩ := q
    simp only [rmO]
    rcases List.mem_cons.1 h2 with e | h2
    ·cases e
     split
     ·rename_i hb; exact absurd (Nat.eq_of_beq_eq_true hb) h1
     ·exact List.mem_cons_self
    ·split
     ·exact ih h2
     ·exact List.mem_cons_of_mem _ (ih h2)
 refine ⟨hI.size, hI.dfr, hI.fr, hI.old, hI.new, hI.may, hI.pin, fun s sv own hs => ?_, fun d y hd => ?_, fun i own hi j oe hj => ?_⟩
 ·cases p with
  | t r j =>
   simp only [Look.setP] at hs
   split at hs
   ·rename_i e
    simp only [Option.map_eq_some_iff] at hs
    obtain ⟨⟨sv0, own0⟩, h1, h2⟩ := hs
    cases h2
    obtain ⟨k1, k2, k3⟩ := hI.tm s sv0 (rmO own0 j) (by subst e; simp [Look.rmP, h1])
    refine ⟨k1, k2, fun i oe hi => ?_⟩
    rcases mem hi with ⟨rfl, rfl⟩ | hi
    ·subst e; exact ⟨_, hat, ho⟩
    ·exact k3 i oe hi
   ·rename_i e
    exact hI.tm s sv own (by simp [Look.rmP, e, hs])
  | b r j => exact hI.tm s sv own hs
  | a r j => exact hI.tm s sv own hs
 ·cases p with
  | b r j =>
   simp only [Look.setP] at hd
   split at hd
   ·rename_i e
    simp only [Option.map_eq_some_iff] at hd
    obtain ⟨z, h1, h2⟩ := hd
    cases z with
    | map ks vs =>
     cases h2
     exact hI.bo d (.map ks vs) (by subst e; simp [Look.rmP, h1])
    | ref q =>
     cases h2
     exact hI.bo d (.ref q) (by subst e; simp [Look.rmP, h1])
    | part m cs =>
     cases h2
     exact hI.bo d (.part m cs) (by subst e; simp [Look.rmP, h1])
    | cells cs own0 =>
     cases h2
     obtain ⟨k1, k2, us, te, k3, k4⟩ := hI.bo d (.cells cs (rmO own0 j)) (by subst e; simp [Look.rmP, h1])
     refine ⟨k1, k2, us, te, k3, k4.rel, fun i oe hi => ?_⟩
     rcases mem hi with ⟨rfl, rfl⟩ | hi
     ·subst e
      have h5 : w.cell? ⟨G.bx d, i, none⟩ = some (G.pv (.b d i)) := hat
      rw [Z4u k3] at h5
      exact ⟨_, h5, ho⟩
     ·exact k4.own i oe hi
   ·rename_i e
    exact hI.bo d y (by simp [Look.rmP, e, hd])
  | t r j => exact hI.bo d y hd
  | a r j => exact hI.bo d y hd
 ·cases p with
  | a r q =>
   simp only [Look.setP] at hi
   split at hi
   ·rename_i e
    simp only [Option.map_eq_some_iff] at hi
    obtain ⟨own0, h1, h2⟩ := hi
    cases h2
    rcases mem hj with ⟨rfl, rfl⟩ | hj
    ·subst e
     rw [← hI.pin.1]; exact ho
    ·exact hI.gr i (rmO own0 q) (by subst e; simp [Look.rmP, h1]) j oe hj
   ·rename_i e
    exact hI.gr i own (by simp [Look.rmP, e, hi]) j oe hj
  | t r q => exact hI.gr i own hi j oe hj
  | b r q => exact hI.gr i own hi j oe hj
end Go.Bv

namespace Go.Bv
open Go.RowKit
variable {E : Env} {P : Program} {n : Nat} {L L' : Look} {a : Act} {w w' : World} {G G' : Gho} {D D' : LP → Prop} {o : Oper} {d : Nat} {h : Hint} {ups : List Upd} {obs : List Prop}
theorem Stp.trans {w'' : World} {G'' : Gho} (hS : Stp D w w' G G') (h3 : Stp D' w' w'' G' G'') : Stp (fun q => D q ∨ D' q) w w'' G G'' := by
 refine ⟨h3.os.trans hS.os, h3.tape.trans hS.tape, h3.output.trans hS.output, Nat.le_trans hS.size h3.size, fun b hb hp => ?_, hS.ext.trans h3.ext, hS.was, h3.new, fun b p hp => ?_, fun d hd => ?_, fun p hp => ?_, ⟨fun i j => (h3.pin.1 i j).trans (hS.pin.1 i j), fun d hd => (h3.pin.2 d hd).trans (hS.pin.2 d hd)⟩⟩
 ·obtain ⟨s1, s2, s3⟩ := hS.same b hb (fun p hl hd => hp p hl (.inl hd))
  obtain ⟨r1, r2, r3⟩ := h3.same b (Nat.lt_of_lt_of_le hb hS.size) (fun p hl hd => hp p (s3 ▸ hl) (.inr hd))
  exact ⟨r1.trans s1, r2.trans s2, r3.trans s3⟩
 ·rcases h3.may b p hp with ⟨q, hq⟩ | hq
  ·exact hS.may b q hq
  ·exact .inr (Nat.le_trans hS.size hq)
 ·exact (h3.bx d (fun h => hd (.inr h))).trans (hS.bx d (fun h => hd (.inl h)))
 ·exact (h3.pv p (fun h => hp (.inr h))).trans (hS.pv p (fun h => hp (.inl h)))
theorem Stp.refl (hI : Inv E L a w G) : Stp (fun _ => False) w w G G :=
 ⟨rfl, rfl, rfl, Nat.le_refl _, fun b _ _ => ⟨rfl, rfl, rfl⟩, Ext.refl _ _, fun b hb => (hI.new b hb).2, hI.new, fun b p hp => .inl ⟨p, hp⟩, fun _ _ => rfl, fun _ _ => rfl, ⟨fun _ _ => rfl, fun _ _ => rfl⟩⟩
def OP.eqb : OP → OP → Bool
 | .t i j, .t k l => Nat.beq i k && Nat.beq j l
 | .b i j, .b k l => Nat.beq i k && Nat.beq j l
 | .a i j, .a k l => Nat.beq i k && Nat.beq j l
 | _, _ => false
theorem OP.eqb_refl (p : OP) : p.eqb p = true := by cases p <;> simp [OP.eqb]
def Zrz (p : OP) : List (Nat × OP) → Bool
 | [] => true
 | (_, q) :: l => !p.eqb q && Zrz p l
theorem Zjd {p : OP} : ∀ {l : List (Nat × OP)}, Zrz p l = true → ∀ q ∈ l, p ≠ q.2
 | [], _, q, h => by cases h
 | (j, r) :: l, h, q, hq => by
  simp only [Zrz, Bool.and_eq_true, Bool.not_eq_true'] at h
  rcases List.mem_cons.1 hq with e | hq
  ·subst e; rintro rfl; rw [OP.eqb_refl] at h; cases h.1
  ·exact Zjd h.2 q hq
def Zex : Look → OwnL → Option (OwnL × List (Nat × OP))
 | _, [] => some ([], [])
 | L, (j, .al p []) :: l => match Z6c L p, Zex (L.rmP p) l with
  | some (.ex e dp xs), some (own, ps) => match Zrz p ps with
   | true => some ((j, .ex e dp xs) :: own, (j, p) :: ps)
   | false => none
  | _, _ => none
 | _, _ => none
def Zqd (L : Look) : List (Nat × OP) → Look
 | [] => L
 | (_, p) :: ps => Zqd (L.rmP p) ps
def Zth (p : OP) (i j : Nat) : LP → LP := fun l => if l = .own p then .arg i (j + 1) else l
theorem Zm0 {cells : List Value} {i : Nat} : ∀ (own : OwnL) (L : Look) (G : Gho) (own' : OwnL) (ps : List (Nat × OP)), Zex L own = some (own', ps) → Inv E L a w G → (∀ j p π, (j, OE.al p π) ∈ own → NoRef (Z6l p) L ∧ cells[j]? = some (G.pv p)) →
  ∃ G' D, Stp D w w G G' ∧ (∀ i j, ¬ D (.arg i j)) ∧ Inv E (Zqd L ps) a w G' ∧ Ents E.P G'.X w (Z25 G') i own' cells ∧ G'.bx = G.bx ∧ G'.pv = G.pv ∧ (∀ {D0}, Av D0 L → Av D0 (Zqd L ps)) ∧
   (∀ j p, (j, p) ∈ ps → Zi0 E a w G' p ∧ cells[j]? = some (G'.pv p) ∧ ∃ e dp xs, (j, OE.ex e dp xs) ∈ own') ∧ ps.Pairwise (fun p q => p.2 ≠ q.2)
 | [], L, G, own', ps, h, hI, _ => by
  simp only [Zex] at h; cases h
  exact ⟨G, _, Stp.refl hI, fun _ _ h => h, hI, (fun j oe hj => by cases hj), rfl, rfl, fun h => h, (fun j p hj => by cases hj), List.Pairwise.nil⟩
 | (j, .al p []) :: l, L, G, own', ps, h, hI, hn => by
  simp only [Zex] at h
  split at h
  ·rename_i e dp xs own2 ps2 hr h2
   split at h
   case h_2 => cases h
   rename_i hoth
   cases h
   obtain ⟨hnr, hcell⟩ := hn j p [] List.mem_cons_self
   obtain ⟨i1, a1⟩ := hI.rmP hnr
   obtain ⟨u, hown⟩ := Z8j hI hr rfl
   have hu := hown.pv rfl
   obtain ⟨F, hF1, hF2⟩ := Zft hown rfl
   have hS : Stp (fun q => q = .own p) w w G (G.relab (Zth p i j) G.pv) := Stp.relab hI (fun l hl => by simp only [Zth]; rw [if_neg hl]) (fun _ _ => rfl) (fun _ _ => rfl)
   have i2 := i1.step' a1 hS
   have hat : Zi0 E a w (G.relab (Zth p i j) G.pv) p := by
    have := hI.rootAt hr rfl
    cases p <;> exact this
   obtain ⟨G', D, h3, h4, h5, h6, h7, h8, h9, h10, h11⟩ := Zm0 l (L.rmP p) _ own2 ps2 h2 i2 (fun j' p' π hm => ⟨(hn j' p' π (List.mem_cons_of_mem _ hm)).1.rmP p, (hn j' p' π (List.mem_cons_of_mem _ hm)).2⟩)
   have hent : Ents E.P (G.relab (Zth p i j) G.pv).X w (Z25 (G.relab (Zth p i j) G.pv)) i [(j, .ex e dp xs)] cells := by
    intro j' oe hj'
    simp at hj'
    obtain ⟨rfl, rfl⟩ := hj'
    exact ⟨rfl, u, F, by rw [hcell, hu], hF1, fun b hb => Zdr (by simp [Gho.relab, hF2 b hb, Zth]) (Zqc hF1 (fun e he => by cases he) b hb)⟩
   refine ⟨G', _, hS.trans h3, ?_, h5, ?_, h7, h8, fun hD => h9 (hD.rmP p), ?_, ?_⟩
   ·rintro i j (hh | hh)
    ·cases hh
    ·exact h4 i j hh
   ·intro j' oe hj'
    rcases List.mem_cons.1 hj' with hj' | hj'
    ·exact (hent.stp h3 h4) j' oe (by rw [hj']; simp)
    ·exact h6 j' oe hj'
   ·intro j' p' hj'
    rcases List.mem_cons.1 hj' with hj' | hj'
    ·cases hj'
     refine ⟨?_, by rw [h8]; exact hcell, e, dp, xs, List.mem_cons_self⟩
     cases p with
     | t s q => show _ = _; rw [h8]; exact hat
     | b s q => show _ = _; rw [h8, h7]; exact hat
     | a s q => trivial
    ·obtain ⟨k1, k2, e', dp', xs', k3⟩ := h10 j' p' hj'
     exact ⟨k1, k2, e', dp', xs', List.mem_cons_of_mem _ k3⟩
   ·exact List.Pairwise.cons (fun q hq => Zjd hoth q hq) h11
  ·cases h
 | (j, .al p (z :: π)) :: l, L, G, own', ps, h, hI, _ => by simp [Zex] at h
 | (j, .app e) :: l, L, G, own', ps, h, hI, _ => by simp [Zex] at h
 | (j, .ex e dp xs) :: l, L, G, own', ps, h, hI, _ => by simp [Zex] at h
 | (j, .sb p π lo sz n) :: l, L, G, own', ps, h, hI, _ => by simp [Zex] at h
end Go.Bv

namespace Go.Bv
open Go.RowKit
variable {E : Env} {P : Program} {n : Nat} {L L' : Look} {a : Act} {w w' : World} {G G' : Gho} {D D' : LP → Prop} {o : Oper} {d : Nat} {h : Hint} {ups : List Upd} {obs : List Prop}
theorem DVL.parts : ∀ {cs : List AV} {us : List Value} {F : List Nat}, DVL P w cs us F → ∃ Fs : List (List Nat), F = Fs.flatten ∧ Fs.length = cs.length ∧ ∀ (j : Nat) (c : AV), cs[j]? = some c → ∃ u Fj, us[j]? = some u ∧ Fs[j]? = some Fj ∧ DV P w c u Fj
 | [], _, _, ⟨e, e2⟩ => by subst e; subst e2; exact ⟨[], rfl, rfl, fun j c h => by simp at h⟩
 | c :: cs, _, _, ⟨u, r, F1, F2, e, e2, h1, h2⟩ => by
  subst e; subst e2
  obtain ⟨Fs, e, hl, hh⟩ := DVL.parts h2
  refine ⟨F1 :: Fs, by rw [List.flatten_cons, e], by simp [hl], fun j c' hc => ?_⟩
  cases j with
  | zero => simp at hc; subst hc; exact ⟨u, F1, rfl, rfl, h1⟩
  | succ j =>
   obtain ⟨v, Fj, q1, q2, q3⟩ := hh j c' (by simpa using hc)
   exact ⟨v, Fj, by simpa using q1, by simpa using q2, q3⟩
def Ziq (b : Nat) : List (List Nat) → Nat → Option Nat
 | [], _ => none
 | F :: Fs, j => if b ∈ F then some j else Ziq b Fs (j + 1)
theorem Zip {b : Nat} : ∀ {Fs : List (List Nat)} {j : Nat}, b ∉ Fs.flatten → Ziq b Fs j = none
 | [], j, _ => rfl
 | F :: Fs, j, h => by
  rw [List.flatten_cons, List.mem_append, not_or] at h
  simp only [Ziq, if_neg h.1]
  exact Zip h.2
theorem Zio {b : Nat} : ∀ {Fs : List (List Nat)} {j k : Nat} {F : List Nat}, Fs.flatten.Nodup → Fs[k]? = some F → b ∈ F → Ziq b Fs j = some (j + k)
 | [], j, k, F, _, h, _ => by simp at h
 | F0 :: Fs, j, 0, F, hn, h, hb => by
  simp at h; subst h
  simp only [Ziq, if_pos hb, Nat.add_zero]
 | F0 :: Fs, j, k + 1, F, hn, h, hb => by
  rw [List.flatten_cons] at hn
  obtain ⟨_, n2, n3⟩ := List.nodup_append.1 hn
  have hbF : b ∈ Fs.flatten := List.mem_flatten.2 ⟨F, List.mem_of_getElem? (by simpa using h), hb⟩
  have hb0 : b ∉ F0 := fun h0 => n3 b h0 b hbF rfl
  simp only [Ziq, if_neg hb0]
  rw [Zio (j := j + 1) (k := k) n2 (by simpa using h) hb, show j + 1 + k = j + (k + 1) by omega]
structure SegOk (P : Program) (G : Gho) (w : World) (p : OP) (e : TypeId) (xs : List (List AV)) (m off k : Nat) (vs : List Value) (us : List Value) (e2 : TypeId) (sz b0 cap : Nat) (FA FC : List Nat) : Prop where
 pv : G.pv p = .slice (some ⟨b0, 0, none⟩) xs.length cap
 ty : e2 = e ∨ e2 = e ∨ e = anyT
 size : Z4x P e2 = some sz
 row : w.ownsRow 0 e2 sz (.slice (some ⟨b0, 0, none⟩) xs.length cap) xs.length us
 len : ∀ c ∈ xs, c.length = sz
 lt : m < xs.length
 fit : off + k ≤ sz
 a : DVL P w (xs.flatten.take (m * sz + off)) (us.take (m * sz + off)) FA
 c : DVL P w (xs.flatten.drop (m * sz + off + k)) (us.drop (m * sz + off + k)) FC
 vs : vs = (us.drop (m * sz + off)).take k
 nd : (b0 :: (FA ++ FC)).Nodup
 own : ∀ b ∈ b0 :: (FA ++ FC), G.lab b = some (.own p) ∧ G.X b = some 0
theorem SegOk.stay {p : OP} {e e2 : TypeId} {xs : List (List AV)} {m off k sz b0 cap : Nat} {vs us : List Value} {FA FC : List Nat} (h : SegOk P G w p e xs m off k vs us e2 sz b0 cap FA FC)
  (hpv : G'.pv p = G.pv p) (hs : ∀ b ∈ b0 :: (FA ++ FC), w'.heap[b]? = w.heap[b]? ∧ G'.lab b = G.lab b ∧ G'.X b = G.X b) : SegOk P G' w' p e xs m off k vs us e2 sz b0 cap FA FC := by
 refine ⟨hpv.trans h.pv, h.ty, h.size, Zaq h.row (fun b hb => (hs b (by
   have : b = b0 := by simpa [blks, Value.ownBlock] using hb
   simp [this])).1), h.len, h.lt, h.fit, DVL.stay _ _ _ h.a (fun b hb => (hs b (by simp [hb])).1), DVL.stay _ _ _ h.c (fun b hb => (hs b (by simp [hb])).1), h.vs, h.nd, fun b hb => ?_⟩
 obtain ⟨_, h2, h3⟩ := hs b hb
 exact ⟨h2.trans (h.own b hb).1, h3.trans (h.own b hb).2⟩
theorem SegOk.back {p : OP} {e e2 : TypeId} {xs zs : List (List AV)} {m off k sz b0 cap : Nat} {vs us : List Value} {FA FC : List Nat} (h : SegOk P G w p e xs m off k vs us e2 sz b0 cap FA FC) {c : List AV} {F : List Nat} (hc : DVL P w c vs F) (hck : c.length = k)
  (hF : F.Nodup) (hl : ∀ b ∈ F, G.lab b = some (.own p) ∧ G.X b = some 0) (hdis : ∀ b ∈ F, b ∉ b0 :: (FA ++ FC)) (hz : zs = xs.modify m fun r => setAll r off c) : Own P G w p (.ex e true zs) (G.pv p) := by
 have hxl := flatten_length' h.len
 have hus : us.length = xs.length * sz := h.row.1
 have hmul : m * sz + sz ≤ xs.length * sz := by
  have := Nat.mul_le_mul_right sz (show m + 1 ≤ xs.length from h.lt)
  rwa [Nat.add_mul, Nat.one_mul] at this
 have hfit := h.fit
 have hmlt := h.lt
 have gm : xs[m]? = some xs[m] := by simp [hmlt]
 have hzf : zs.flatten = setAll xs.flatten (m * sz + off) c := by rw [hz]; exact Zb4 id xs m xs[m] sz off c h.len gm (by omega)
 have hzl : zs.length = xs.length := by rw [hz]; simp
 have hzlen : ∀ q ∈ zs, q.length = sz := by
  intro q hq
  rw [hz, List.mem_iff_getElem?] at hq
  obtain ⟨j, hj⟩ := hq
  rw [List.getElem?_modify] at hj
  cases hc0 : xs[j]? with
  | none => rw [hc0] at hj; cases hj
  | some c0 =>
   rw [hc0] at hj
   have := h.len c0 (List.mem_of_getElem? hc0)
   by_cases eij : m = j
   ·simp [eij] at hj; rw [← hj, Z58]; exact this
   ·simp [eij] at hj; rw [← hj]; exact this
 have e3 : us = us.take (m * sz + off) ++ (vs ++ us.drop (m * sz + off + k)) := by
  have e4 : us.drop (m * sz + off + k) = (us.drop (m * sz + off)).drop k := by rw [List.drop_drop]
  rw [h.vs, e4, List.take_append_drop, List.take_append_drop]
 refine ⟨rfl, b0 :: (FA ++ (F ++ FC)), ⟨e2, sz, us, FA ++ (F ++ FC), ?_, h.size, by rw [h.pv, hzl]; exact h.row, hzlen, ?_, by rw [h.pv]; rfl, ?_, ?_⟩, ?_⟩
 ·rcases h.ty with h | h | h
  ·exact .inl h
  ·exact .inl h
  ·exact .inr h
 ·show DVL P w zs.flatten us (FA ++ (F ++ FC))
  rw [hzf, Z33 _ _ _ (by rw [hxl]; omega), hck, List.append_assoc]
  conv => arg 4; rw [e3]
  exact h.a.append (hc.append h.c)
 ·have h1 := h.nd
  rw [List.nodup_cons, List.nodup_append] at h1
  obtain ⟨n0, n1, n2, n3⟩ := h1
  rw [List.mem_append, not_or] at n0
  refine List.nodup_cons.2 ⟨?_, List.nodup_append.2 ⟨n1, List.nodup_append.2 ⟨hF, n2, fun x hx y hy e => hdis x hx (by subst e; simp [hy])⟩, fun x hx y hy e => ?_⟩⟩
  ·simp only [List.mem_append, not_or]
   exact ⟨n0.1, fun hb => hdis b0 hb (by simp), n0.2⟩
  ·subst e
   rcases List.mem_append.1 hy with hy | hy
   ·exact hdis x hy (by simp [hx])
   ·exact n3 x hx x hy rfl
 ·intro b hb
  rcases List.mem_cons.1 hb with hb | hb
  ·exact (h.own b (by simp [hb])).2
  ·rcases List.mem_append.1 hb with hb | hb
   ·exact (h.own b (by simp [hb])).2
   ·rcases List.mem_append.1 hb with hb | hb
    ·exact (hl b hb).2
    ·exact (h.own b (by simp [hb])).2
 ·intro b hb
  rcases List.mem_cons.1 hb with hb | hb
  ·exact (h.own b (by simp [hb])).1
  ·rcases List.mem_append.1 hb with hb | hb
   ·exact (h.own b (by simp [hb])).1
   ·rcases List.mem_append.1 hb with hb | hb
    ·exact (hl b hb).1
    ·exact (h.own b (by simp [hb])).1
def Zfz : OwnL → List Nat
 | [] => []
 | (j, _) :: l => j :: Zfz l
def Zhh : List Nat → Bool
 | [] => true
 | x :: l => !memN x l && Zhh l
theorem Zfy {k : Nat} : ∀ {l : List Nat}, memN k l = true ↔ k ∈ l
 | [] => by simp [memN]
 | x :: l => by
  simp only [memN, Bool.or_eq_true, List.mem_cons, Zfy (l := l)]
  constructor
  ·rintro (h | h)
   ·exact .inl (Nat.eq_of_beq_eq_true h).symm
   ·exact .inr h
  ·rintro (h | h)
   ·subst h; exact .inl (by simp)
   ·exact .inr h
theorem Zoo : ∀ {own : OwnL}, Zhh (Zfz own) = true → ∀ {j : Nat} {oe : OE}, (j, oe) ∈ own → lkO own j = some oe
 | [], _, j, oe, h => by cases h
 | (k, y) :: l, hn, j, oe, h => by
  simp only [Zfz, Zhh, Bool.and_eq_true, Bool.not_eq_true'] at hn
  rcases List.mem_cons.1 h with h | h
  ·cases h
   simp [lkO]
  ·have hne : k ≠ j := by
    rintro rfl
    have : k ∈ Zfz l := by
     clear hn
     induction l with
     | nil => cases h
     | cons q l ih =>
      obtain ⟨k', y'⟩ := q
      rcases List.mem_cons.1 h with e | e
      ·cases e; simp [Zfz]
      ·simp only [Zfz, List.mem_cons]; exact .inr (ih (List.mem_cons_of_mem _ e) e)
    rw [Zfy.2 this] at hn
    cases hn.1
   simp only [lkO]
   cases hb : Nat.beq k j with
   | true => exact absurd (Nat.eq_of_beq_eq_true hb) hne
   | false => exact Zoo hn.2 h
theorem Znc : ∀ {cs cs' : List AV} {own : OwnL} {k : Nat}, Zbr own k cs = some cs' → ∀ j x, cs[j]? = some x →
  (∃ e ys, lkO own (k + j) = some (.ex e true ys) ∧ cs'[j]? = some (.sl ys)) ∨ (∃ e, lkO own (k + j) = some (.app e) ∧ x = .sl [] ∧ cs'[j]? = some (.sl [])) ∨ (lkO own (k + j) = none ∧ cs'[j]? = some x ∧ Zcx x = true)
 | [], cs', own, k, h, j, x, hx => by simp at hx
 | c :: cs, cs', own, k, h, j, x, hx => by
  simp only [Zbr] at h
  split at h
  ·rename_i r hr
   have tail : ∀ {y : AV}, cs' = y :: r → ∀ j', j = j' + 1 → (∃ e ys, lkO own (k + j) = some (.ex e true ys) ∧ cs'[j]? = some (.sl ys)) ∨ (∃ e, lkO own (k + j) = some (.app e) ∧ x = .sl [] ∧ cs'[j]? = some (.sl [])) ∨ (lkO own (k + j) = none ∧ cs'[j]? = some x ∧ Zcx x = true) := by
    rintro y rfl j' rfl
    have := Znc hr j' x (by simpa using hx)
    rw [show k + 1 + j' = k + (j' + 1) by omega] at this
    simpa using this
   cases j with
   | zero =>
    simp at hx; subst hx
    rw [Nat.add_zero]
    split at h
    ·rename_i e ys hl; cases h; exact .inl ⟨e, ys, hl, rfl⟩
    ·rename_i e hl
     split at h
     ·cases h; exact .inr (.inl ⟨e, hl, rfl, rfl⟩)
     ·cases h
    ·cases h
    ·rename_i hl
     split at h <;> first | (cases h; exact .inr (.inr ⟨hl, rfl, rfl⟩)) | cases h
   | succ j =>
    split at h
    ·cases h; exact tail rfl j rfl
    ·split at h
     ·cases h; exact tail rfl j rfl
     ·cases h
    ·cases h
    ·split at h <;> first | (cases h; exact tail rfl j rfl) | cases h
  ·cases h
end Go.Bv

namespace Go.Bv
open Go.RowKit
variable {E : Env} {P : Program} {n : Nat} {L L' : Look} {a : Act} {w w' : World} {G G' : Gho} {D D' : LP → Prop} {o : Oper} {d : Nat} {h : Hint} {ups : List Upd} {obs : List Prop}
def Znq : OwnL → Bool
 | [] => true
 | (_, .ex e true _) :: l => Nat.beq e anyT && Znq l
 | _ => false
theorem Zha : ∀ {own : OwnL}, Znq own = true → ∀ j oe, (j, oe) ∈ own → ∃ ys, oe = .ex anyT true ys
 | [], _, j, oe, h => by cases h
 | (k, x) :: l, h, j, oe, hm => by
  cases x with
  | ex e dp xs =>
   cases dp with
   | false => simp [Znq] at h
   | true =>
    simp only [Znq, Bool.and_eq_true] at h
    rcases List.mem_cons.1 hm with e1 | hm
    ·cases e1; exact ⟨xs, by rw [Nat.eq_of_beq_eq_true h.1]⟩
    ·exact Zha h.2 j oe hm
  | app e => simp [Znq] at h
  | al p π => simp [Znq] at h
  | sb p π lo sz n => simp [Znq] at h
theorem Zog {own : OwnL} {j : Nat} : j ∈ Zfz own ↔ ∃ oe, (j, oe) ∈ own := by
 induction own with
 | nil => simp [Zfz]
 | cons q l ih =>
  obtain ⟨k, x⟩ := q
  simp only [Zfz, List.mem_cons, ih]
  constructor
  ·rintro (rfl | ⟨oe, h⟩)
   ·exact ⟨x, .inl rfl⟩
   ·exact ⟨oe, .inr h⟩
  ·rintro ⟨oe, h | h⟩
   ·cases h; exact .inl rfl
   ·exact .inr ⟨oe, h⟩
theorem Ztd (hI : Inv E L a w G) {p : OP} {e : TypeId} {xs : List (List AV)} {m sz off : Nat} {y : AV} {u : Value} {ioc : OwnL} {c r : List AV} (i : Nat) (hnr : NoRef (Z6l p) L) (hroot : Z6c L p = some (.ex e true xs)) (hrel : Rel G.X w y u) (hsol : y.solid = true)
  (hal : ∀ j ∈ Zfz ioc, ∃ v, (Value.flat u)[j]? = some v ∧ At w G.lab p (G.pv p) [(m, sz, off + j)] v) (hnod : Zhh (Zfz ioc) = true) (hex : Znq ioc = true) (hfill : Zbr ioc 0 y.cells = some c)
  (hr : xs[m]? = some r) (hrl : r.length = sz) (hfit : off + c.length ≤ sz) (hc : (r.drop off).take c.length = c) :
  ∃ G', Stp (fun q => q = .own p) w w G G' ∧ Inv E (L.rmP p) a w G' ∧ Ents E.P G'.X w (Z25 G') i ioc (Value.flat u) ∧ G'.bx = G.bx ∧ G'.pv = G.pv ∧ G'.X = G.X ∧ Zi0 E a w G' p ∧
   ∃ us e2 b0 cap FA FC, SegOk E.P G' w p e xs m off c.length u.cells.toList us e2 sz b0 cap FA FC := by
 obtain ⟨i1, a1⟩ := hI.rmP hnr
 have hat := hI.rootAt hroot rfl
 obtain ⟨u0, hown⟩ := Z8j hI hroot rfl
 have hu0 := hown.pv rfl
 obtain ⟨_, F, ⟨e2, sz', us, F', g0, g1, g2, g3, g4, rfl, g6, g7⟩, hF⟩ := hown
 have hsz : sz' = sz := by rw [← hrl]; exact (g3 r (List.mem_of_getElem? hr)).symm
 subst hsz
 have hmlt : m < xs.length := (List.getElem?_eq_some_iff.1 hr).1
 have hxl := flatten_length' g3
 have hus : us.length = xs.length * sz' := g2.1
 have hmul : m * sz' + sz' ≤ xs.length * sz' := by
  have := Nat.mul_le_mul_right sz' (show m + 1 ≤ xs.length from hmlt)
  rwa [Nat.add_mul, Nat.one_mul] at this
 obtain ⟨b0, cap, hu0s⟩ : ∃ b0 cap, u0 = .slice (some ⟨b0, 0, none⟩) xs.length cap := by
  rcases g2.2 with ⟨e1, e2⟩ | ⟨g, cp, cur, e1, _⟩
  ·omega
  ·exact ⟨g, cp, e1⟩
 -- the content, cut in three
 have hcf : (xs.flatten.drop (m * sz' + off)).take c.length = c := by
  apply List.ext_getElem?
  intro j
  by_cases hj : j < c.length
  ·rw [List.getElem?_take, if_pos hj, List.getElem?_drop, Nat.add_assoc, Zew g3 hr (by omega)]
   conv => rhs; rw [← hc]
   rw [List.getElem?_take, if_pos hj, List.getElem?_drop]
  ·rw [List.getElem?_take, if_neg hj, List.getElem?_eq_none (by omega)]
 have ecut : xs.flatten = xs.flatten.take (m * sz' + off) ++ (c ++ xs.flatten.drop (m * sz' + off + c.length)) := by
  have e4 : xs.flatten.drop (m * sz' + off + c.length) = (xs.flatten.drop (m * sz' + off)).drop c.length := by rw [List.drop_drop]
  conv => lhs; rw [← List.take_append_drop (m * sz' + off) xs.flatten, ← List.take_append_drop c.length (xs.flatten.drop (m * sz' + off)), hcf]
  rw [e4]
 have g4' := g4
 rw [ecut] at g4'
 obtain ⟨us1, us2, FA, F2, q1, q2, hA, h2⟩ := g4'.split
 obtain ⟨us3, us4, FM, FC, q3, q4, hM, hC⟩ := h2.split
 have l1 := hA.length
 have l3 := hM.length
 rw [List.length_take] at l1
 have hl1 : us1.length = m * sz' + off := by rw [l1, hxl]; omega
 have hus1 : us1 = us.take (m * sz' + off) := by rw [q1, List.take_append_of_le_length (by omega), List.take_of_length_le (by omega)]
 have hus3 : us3 = (us.drop (m * sz' + off)).take c.length := by
  rw [q1, q3, List.drop_append_of_le_length (by omega), List.drop_of_length_le (by omega), List.nil_append, List.take_append_of_le_length (by omega), List.take_of_length_le (by omega)]
 have hus4 : us4 = us.drop (m * sz' + off + c.length) := by
  rw [q1, q3, ← List.append_assoc, List.drop_append_of_le_length (by rw [List.length_append]; omega), List.drop_of_length_le (by rw [List.length_append]; omega), List.nil_append]
 subst q2; subst q4
 obtain ⟨Fs, hFs, hFl, hparts⟩ := hM.parts
 have hnF := (List.nodup_append.1 g6).2.1
 have hnM : FM.Nodup := (List.nodup_append.1 (List.nodup_append.1 hnF).2.1).1
 have hcl := Z8w hfill
 -- the cells of the value are those of the row
 have hcells := Z2t hrel hsol
 have hfl := Z4j (Z3p hrel hsol)
 have hrow : ∀ j v, (Value.flat u)[j]? = some v → At w G.lab p (G.pv p) [(m, sz', off + j)] v → us[m * sz' + off + j]? = some v ∨ xs.length * sz' ≤ m * sz' + off + j := by
  intro j v hv hAt
  obtain ⟨b, len, cp, v', k1, k2, k3, k4, k5⟩ := hAt
  rw [hu0, hu0s] at k1; cases k1
  rw [show v = v' from k5]
  by_cases hlt : m * sz' + off + j < xs.length * sz'
  ·refine .inl ?_
   have hget : us[m * sz' + off + j]? = some (us[m * sz' + off + j]'(by omega)) := by simp [hus, hlt]
   have := g2.cells (g := b0) (by rw [hu0s]; rfl) _ _ hget
   rw [add_lit, Nat.zero_add] at this
   rw [← Nat.add_assoc] at k4
   rw [k4] at this
   cases this
   exact hget
  ·exact .inr (by omega)
 have huc : u.cells.toList = us3 := by
  apply List.ext_getElem?
  intro j
  have hlen1 : u.cells.toList.length = c.length := by rw [hcells.length, hcl]
  by_cases hj : j < c.length
  ·have hyj : y.cells[j]? = some (y.cells[j]'(by omega)) := by simp [show j < y.cells.length by omega]
   obtain ⟨v, hv1, hv2⟩ := hcells.get j hyj
   rcases Znc hfill j _ hyj with ⟨e', ys, k1, k2⟩ | ⟨e', k1, _⟩ | ⟨k1, k2, k3⟩
   ·rw [Nat.zero_add] at k1
    obtain ⟨v', hv', hAt⟩ := hal j (Zog.2 ⟨_, Z3x k1⟩)
    rcases hrow j v' hv' hAt with h5 | h5
    ·rw [hfl] at hv'
     rw [hv', hus3, List.getElem?_take, if_pos hj, List.getElem?_drop]; exact h5.symm
    ·omega
   ·rw [Nat.zero_add] at k1
    obtain ⟨ys, h6⟩ := Zha hex j _ (Z3x k1)
    cases h6
   ·obtain ⟨v', Fj, h6, h7, h8⟩ := hparts j _ k2
    rw [hv1, h6]
    -- a number, a text, a truth
    cases hy : y.cells[j] with
    | int k q => rw [hy] at hv2 h8; rw [show v = _ from hv2, h8.1]
    | bool q => rw [hy] at hv2 h8; rw [show v = _ from hv2, h8.1]
    | str q => rw [hy] at hv2 h8; rw [show v = _ from hv2, h8.1]
    | _ => rw [hy] at k3; cases k3
  ·rw [List.getElem?_eq_none (by omega), List.getElem?_eq_none (by omega)]
 -- the labels
 let lab' : Nat → Option LP := fun b => match Ziq b Fs 0 with | some j => some (.arg i (j + 1)) | none => G.lab b
 let G' : Gho := { G with lab := lab' }
 have hFMF : ∀ b, b ∈ Fs.flatten → b ∈ blks u0 ++ (FA ++ (FM ++ FC)) := fun b hb => by rw [hFs]; simp [hb]
 have hout : ∀ b, b ∉ Fs.flatten → lab' b = G.lab b := fun b hb => by simp only [lab', Zip hb]
 have hS : Stp (fun q => q = .own p) w w G G' := by
  refine ⟨rfl, rfl, rfl, Nat.le_refl _, fun b hb hp => ⟨rfl, rfl, hout b (fun hm => hp _ (hF b (hFMF b hm)) rfl)⟩, Ext.refl _ _, fun b hb => (hI.new b hb).2, fun b hb => ⟨(hI.new b hb).1, ?_⟩, fun b q hq => ?_, fun _ _ => rfl, fun _ _ => rfl, ⟨fun _ _ => rfl, fun _ _ => rfl⟩⟩
  ·show lab' b = none
   rw [hout b (fun hm => by have := hF b (hFMF b hm); rw [(hI.new b hb).2] at this; cases this)]
   exact (hI.new b hb).2
  ·by_cases hm : b ∈ Fs.flatten
   ·exact .inl ⟨_, hF b (hFMF b hm)⟩
   ·have : lab' b = some q := hq
    rw [hout b hm] at this
    exact .inl ⟨q, this⟩
 have i2 := i1.step' a1 hS
 refine ⟨G', hS, i2, ?_, rfl, rfl, rfl, ?_, us, e2, b0, cap, FA, FC, ?_⟩
 ·intro j oe hj
  obtain ⟨ys, rfl⟩ := Zha hex j oe hj
  have hlk := Zoo hnod hj
  obtain ⟨v, hv, hAt⟩ := hal j (Zog.2 ⟨_, hj⟩)
  have hjl : j < c.length := by
   have := (List.getElem?_eq_some_iff.1 hv).1
   rw [hfl, hcells.length, ← hcl] at this; exact this
  have hyj : y.cells[j]? = some (y.cells[j]'(by omega)) := by simp [show j < y.cells.length by omega]
  have hcj : c[j]? = some (.sl ys) := by
   rcases Znc hfill j _ hyj with ⟨e', zs, k1, k2⟩ | ⟨e', k1, _⟩ | ⟨k1, k2, k3⟩
   ·rw [Nat.zero_add, hlk] at k1; cases k1; exact k2
   ·rw [Nat.zero_add, hlk] at k1; cases k1
   ·rw [Nat.zero_add, hlk] at k1; cases k1
  obtain ⟨v', Fj, h6, h7, h8⟩ := hparts j _ hcj
  have hvv : v' = v := by
   have : (Value.flat u)[j]? = some v' := by rw [hfl, huc]; exact h6
   rw [hv] at this; cases this; rfl
  subst hvv
  obtain ⟨ej, szj, usj, Fj', k1, k2, k3, k4⟩ := h8
  have hFjM : ∀ b ∈ Fj, b ∈ Fs.flatten := fun b hb => List.mem_flatten.2 ⟨Fj, List.mem_of_getElem? h7, hb⟩
  have hFjn : Fj.Nodup := by
   rw [hFs] at hnM
   exact List.Sublist.nodup (List.sublist_flatten_of_mem (List.mem_of_getElem? h7)) hnM
  refine ⟨rfl, v', Fj, hv, ⟨ej, szj, usj, Fj', .inr rfl, k1, k2, (Zdt.1 k3).1, (Zdt.1 k3).2, k4, hFjn, fun b hb => g7 b (hFMF b (hFjM b hb))⟩, fun b hb => Zdr ?_ (g7 b (hFMF b (hFjM b hb)))⟩
  show lab' b = _
  simp only [lab', Zio (j := 0) (hFs ▸ hnM) h7 hb, Nat.zero_add]
 ·cases p with
  | t s j => exact hat
  | b s j => exact hat
  | a s j => trivial
 ·have hnot : ∀ b ∈ b0 :: (FA ++ FC), b ∉ Fs.flatten := by
   intro b hb hm
   rw [← hFs] at hm
   rw [hu0s] at g6
   have hbl : blks (Value.slice (some ⟨b0, 0, none⟩) xs.length cap) = [b0] := rfl
   rw [hbl] at g6
   obtain ⟨n1, n2, n3⟩ := List.nodup_append.1 g6
   obtain ⟨n4, n5, n6⟩ := List.nodup_append.1 n2
   obtain ⟨n7, n8, n9⟩ := List.nodup_append.1 n5
   rcases List.mem_cons.1 hb with rfl | hb
   ·exact n3 b (by simp) b (by simp [hm]) rfl
   ·rcases List.mem_append.1 hb with hb | hb
    ·exact n6 b hb b (by simp [hm]) rfl
    ·exact n9 b hm b hb rfl
  have hin : ∀ b ∈ b0 :: (FA ++ FC), b ∈ blks u0 ++ (FA ++ (FM ++ FC)) := by
   intro b hb
   rcases List.mem_cons.1 hb with rfl | hb
   ·rw [hu0s]; simp [blks, Value.ownBlock]
   ·rcases List.mem_append.1 hb with hb | hb
    ·simp [hb]
    ·simp [hb]
  refine ⟨by show G.pv p = _; rw [hu0, hu0s], g0.imp id .inr, g1, by rw [← hu0s]; exact g2, g3, hmlt, hfit, by rw [← hus1]; exact hA, by rw [← hus4]; exact hC, by rw [huc, hus3], ?_, fun b hb => ⟨?_, g7 b (hin b hb)⟩⟩
  ·rw [hu0s] at g6
   refine g6.sublist ?_
   show (b0 :: (FA ++ FC)).Sublist ([b0] ++ (FA ++ (FM ++ FC)))
   have h1 : (FA ++ FC).Sublist (FA ++ (FM ++ FC)) := (List.Sublist.refl FA).append (List.sublist_append_right FM FC)
   exact h1.cons_cons b0
  ·show lab' b = _
   rw [hout b (hnot b hb)]; exact hF b (hin b hb)
end Go.Bv

namespace Go.Bv
open Go.RowKit
variable {E : Env} {P : Program} {n : Nat} {L L' : Look} {a : Act} {w w' : World} {G G' : Gho} {D D' : LP → Prop} {o : Oper} {d : Nat} {h : Hint} {ups : List Upd} {obs : List Prop}
def Zk5 : OwnL → Bool
 | [] => true
 | (_, .ex _ true _) :: l => Zk5 l
 | _ => false
theorem Zea : ∀ {own : OwnL}, Zk5 own = true → ∀ j oe, (j, oe) ∈ own → ∃ e xs, oe = .ex e true xs
 | [], _, j, oe, h => by cases h
 | (k, x) :: l, h, j, oe, hm => by
  cases x with
  | ex e dp xs =>
   cases dp with
   | false => simp [Zk5] at h
   | true =>
    rcases List.mem_cons.1 hm with e1 | hm
    ·cases e1; exact ⟨e, xs, rfl⟩
    ·exact Zea (own := l) h j oe hm
  | app e => simp [Zk5] at h
  | al p π => simp [Zk5] at h
  | sb p π lo sz n => simp [Zk5] at h
def Zey : AD → Bool
 | .v x own => dryV x && Zk5 own
 | .io x own => dryV x && Zk5 own
 | .q _ _ cs own => cs.all AV.dry1 && Zk5 own
def Z12e : Option LP → Bool
 | some (.own _) => true
 | _ => false
def Gho.after (G : Gho) (bor : Bool) (X' : Gh) (lab' : Lab) (back : Nat × Nat → LP) (bx' : Nat → Nat) (pv' : OP → Value) : Gho where
 X := fun b => match bor && Z12e (G.lab b) with | true => G.X b | false => X' b
 bx := bx'
 lab := fun b => match lab' b with | some q => some (back q) | none => (match Z25 G b with | some _ => none | none => G.lab b)
 pv := pv'
def Gho.seenX (G : Gho) (bor : Bool) : Gh := match bor with | true => G.open | false => G.X
section
variable {bor : Bool} {X' : Gh} {lab' : Lab} {back : Nat × Nat → LP} {bx' : Nat → Nat} {pv' : OP → Value}
theorem Stp.call (hI : Inv E L a w G) {Dd : LP → Prop} (hfr : Fr (fun b => ∃ q, Z25 G b = some q) w w') (hold : ∀ b, b < w.heap.size → Z25 G b = none → X' b = G.seenX bor b ∧ lab' b = none) (hnew : ∀ b, w'.heap.size ≤ b → X' b = none ∧ lab' b = none)
  (hbx : ∀ d, ¬ Dd (.ptr d) → bx' d = G.bx d) (hpv : ∀ p, ¬ Dd (.own p) → pv' p = G.pv p) (hpin : ∀ i j, pv' (.a i j) = G.pv (.a i j)) (hbp : ∀ d, 1000000 ≤ d → bx' d = G.bx d) : Stp (fun q => Dd q ∨ ∃ i j, q = .arg i j) w w' G (G.after bor X' lab' back bx' pv') := by
 -- of old blocks that were not handed over
 have key : ∀ b, b < w.heap.size → Z25 G b = none → (G.after bor X' lab' back bx' pv').X b = G.X b ∧ (G.after bor X' lab' back bx' pv').lab b = G.lab b := by
  intro b hb ha
  obtain ⟨h1, h2⟩ := hold b hb ha
  refine ⟨?_, by simp only [Gho.after, h2, ha]⟩
  simp only [Gho.after]
  split
  ·rfl
  ·rename_i hx
   rw [h1]
   cases bor with
   | false => rfl
   | true =>
    simp only [Bool.true_and] at hx
    simp only [Gho.seenX, Gho.open]
    cases hl : G.lab b with
    | none => rfl
    | some l =>
     cases l with
     | own p => rw [hl] at hx; cases hx
     | _ => rfl
 refine ⟨hfr.os, hfr.tape, hfr.output, hfr.size, fun b hb hp => ?_, ⟨fun b o u hc hk => ?_, fun r es k hr hk => ?_⟩, fun b hb => (hI.new b hb).2, fun b hb => ?_, fun b p hp => ?_, fun d hd => hbx d (fun h => hd (.inl h)), fun p hp => hpv p (fun h => hp (.inl h)), ⟨hpin, hbp⟩⟩
 ·have ha : Z25 G b = none := by
   cases h : Z25 G b with
   | none => rfl
   | some q => exact absurd (.inr ⟨_, _, rfl⟩) (hp _ (Z3t h).1)
  obtain ⟨k1, k2⟩ := key b hb ha
  exact ⟨hfr.block b hb (fun ⟨q, hq⟩ => by rw [ha] at hq; cases hq), k1, k2⟩
 ·have hlt := World.block_lt_of_cell? w ⟨b, o, none⟩ hc
  have ha : Z25 G b = none := by
   cases h : Z25 G b with
   | none => rfl
   | some q => have := (Z3t h).2; simp [okc, this] at hk
  obtain ⟨k1, k2⟩ := key b hlt ha
  exact ⟨(Zbs (hfr.block b hlt (fun ⟨q, hq⟩ => by rw [ha] at hq; cases hq)) o).trans hc, by simpa [okc, k1] using hk⟩
 ·have hlt : r < w.heap.size := (Array.getElem?_eq_some_iff.1 hr).1
  have ha : Z25 G r = none := by
   cases h : Z25 G r with
   | none => rfl
   | some q => have := (Z3t h).2; rw [hk] at this; cases this
  obtain ⟨k1, k2⟩ := key r hlt ha
  exact ⟨(hfr.block r hlt (fun ⟨q, hq⟩ => by rw [ha] at hq; cases hq)).trans hr, k1.trans hk⟩
 ·obtain ⟨h1, h2⟩ := hnew b hb
  have hge : w.heap.size ≤ b := Nat.le_trans hfr.size hb
  have h3 := hI.new b hge
  have ha : Z25 G b = none := by simp [Z25, h3.2]
  refine ⟨?_, by simp only [Gho.after, h2, ha]; exact h3.2⟩
  simp only [Gho.after, h3.2, Z12e, Bool.and_false]
  exact h1
 ·by_cases hge : w.heap.size ≤ b
  ·exact .inr hge
  ·refine .inl ?_
   have hlt : b < w.heap.size := by omega
   cases ha : Z25 G b with
   | some q => exact ⟨_, (Z3t ha).1⟩
   | none => rw [(key b hlt ha).2] at hp; exact ⟨p, hp⟩
theorem Zgc {b : Nat} {q : Nat × Nat} (h : lab' b = some q) : (G.after bor X' lab' back bx' pv').lab b = some (back q) := by simp only [Gho.after, h]
theorem Zns (hI : Inv E L a w G) (hold : ∀ b, b < w.heap.size → Z25 G b = none → X' b = G.seenX bor b ∧ lab' b = none) {b : Nat} {q : Nat × Nat} (h : lab' b = some q) : (G.after bor X' lab' back bx' pv').X b = X' b := by
 simp only [Gho.after]
 split
 ·rename_i hx
  simp only [Bool.and_eq_true] at hx
  exfalso
  by_cases hlt : b < w.heap.size
  ·cases ha : Z25 G b with
   | none => have := (hold b hlt ha).2; rw [h] at this; cases this
   | some q' => have := (Z3t ha).1; rw [this] at hx; cases hx.2
  ·have := (hI.new b (by omega)).2
   rw [this] at hx; cases hx.2
 ·rfl
theorem Zee {b : Nat} (hb : bor = false) : (G.after bor X' lab' back bx' pv').X b = X' b := by subst hb; rfl
theorem Zpv (hI : Inv E L a w G) (hold : ∀ b, b < w.heap.size → Z25 G b = none → X' b = G.seenX bor b ∧ lab' b = none) {own : OwnL} {cells : List Value} {i : Nat} (he : Ents P X' w' lab' i own cells) (hbor : bor = true → Zk5 own = true)
  {j : Nat} {oe : OE} (hj : (j, oe) ∈ own) {p : OP} (hp : back (i, j + 1) = .own p) (hpv : ∀ c, cells[j]? = some c → pv' p = c) : ∃ c, cells[j]? = some c ∧ Own P (G.after bor X' lab' back bx' pv') w' p oe c := by
 obtain ⟨hw, c, F, hc, hF1, hF2⟩ := he j oe hj
 refine ⟨c, hc, ?_⟩
 have hX : ∀ b ∈ F, (G.after bor X' lab' back bx' pv').X b = X' b := fun b hb => Zns hI hold (hF2 b hb)
 have hRs : Rs P (G.after bor X' lab' back bx' pv').X w' oe c F := by
  cases hb : bor with
  | false =>
   have : (G.after false X' lab' back bx' pv').X = X' := funext fun b => Zee rfl
   rw [this]; exact hF1
  | true =>
   obtain ⟨e, xs, rfl⟩ := Zea (hbor hb) j oe hj
   obtain ⟨e', sz, us, F', h0, h1, h2, h3, h4, rfl, h6, h7⟩ := hF1
   exact ⟨e', sz, us, F', h0, h1, h2, h3, h4, rfl, h6, fun b hb' => by rw [← hb]; exact (hX b hb').trans (h7 b hb')⟩
 have key : (G.after bor X' lab' back bx' pv').pv p = c ∧ ∃ F, Rs P (G.after bor X' lab' back bx' pv').X w' oe c F ∧ ∀ b ∈ F, (G.after bor X' lab' back bx' pv').lab b = some (.own p) :=
  ⟨hpv c hc, F, hRs, fun b hb => by rw [Zgc (hF2 b hb), hp]⟩
 cases oe with
 | app e => exact key
 | ex e dp xs => exact key
 | al q π => cases hw
 | sb q π lo sz n => cases hw
theorem Zx3 {x : AV} {u : Value} (h : Rel X' w' x u) (hb : bor = true → dryV x = true) : Rel (G.after bor X' lab' back bx' pv').X w' x u := by
 cases hbv : bor with
 | false =>
  have : (G.after false X' lab' back bx' pv').X = X' := funext fun b => Zee rfl
  rw [this]; exact h
 | true => exact Z109 h (hb hbv)
theorem Zme {cs : List AV} {us : List Value} (h : RelL X' w' cs us) (hb : bor = true → cs.all AV.dry1 = true) : RelL (G.after bor X' lab' back bx' pv').X w' cs us := by
 cases hbv : bor with
 | false =>
  have : (G.after false X' lab' back bx' pv').X = X' := funext fun b => Zee rfl
  rw [this]; exact h
 | true => exact Zia h (hb hbv)
end
def fsOf' : OwnL → List Upd
 | [] => []
 | (_, .al p _) :: l => .f (Z6l p) :: fsOf' l
 | _ :: l => fsOf' l
def Zle (p : OP) (m sz off : Nat) : List Nat → OwnL
 | [] => []
 | j :: js => (j, .al p [(m, sz, off + j)]) :: Zle p m sz off js
def Zs0 {α : Type} (i : Nat) (q : α) : Nat → List Operand → List (Option α)
 | _, [] => []
 | k, _ :: xs => (match Nat.beq k i with | true => some q | false => none) :: Zs0 i q (k + 1) xs
def lend (L : Look) (h : Hint) (i : Nat) (args : List Operand) : Option (Look × List Upd × List (Option AD) × OutK × List Prop) :=
 match args[i]? with
 | some (.tmp t) => match L.t t with
  | some (.v y, own) => match own with
   | (j0, .al p ((m, sz, o0) :: _)) :: _ => match Z6c (L.upds (fsOf' own)) p, Zbr h.ioc 0 y.cells with
    | some (.ex e true xs), some c => match y.solid && y.cells.all AV.dry1 && Zhh (Zfz h.ioc) && Znq h.ioc && Nat.ble j0 o0 with
     | true => some ((L.upds (fsOf' own)).rmP p, fsOf' own, Zs0 i (.io y h.ioc) 0 args, .seg i p e xs m (o0 - j0) y, [own = Zle p m sz (o0 - j0) (Zfz h.ioc), ∃ r, xs[m]? = some r ∧ r.length = sz ∧ (o0 - j0) + c.length ≤ sz ∧ (r.drop (o0 - j0)).take c.length = c])
     | false => none
    | _, _ => none
   | own => match Zex (L.upds (fsOf' own)) own with
    | some (own', ps) => some (Zqd (L.upds (fsOf' own)) ps, fsOf' own, Zs0 i (.io y own') 0 args, .roots i ps, [])
    | none => none
  | _ => none
 | _ => none
def Zsl (P : Program) (tk : List Nat) : Nat → List Operand → List (Option AD) → List (Option AD)
 | i, x :: xs, g :: gs => (match g, x, tk.find? (fun q => Nat.beq (q / 1000000) (i + 1)) with
  | none, .const (.slice none 0 0), some q => match Z4x P (q % 1000000 / 2) with
   | some _ => some (.v .slx [(0, .ex (q % 1000000 / 2) (Nat.beq (q % 2) 1) [])])
   | none => none
  | g, _, _ => g) :: Zsl P tk (i + 1) xs gs
 | _, _, gs => gs
def Zn8 (P : Program) (L : Look) (h : Hint) (args : List Operand) : Option (Look × List Upd × List (Option AD) × OutK × List Prop) :=
 match h.io with
 | [] => match Zl1 h.tk L 0 args with
  | some (L', us, gs, k) => some (L', us, Zsl P h.tk 0 args gs, k, [])
  | none => none
 | i :: _ => lend L h i args
def Zo9 (L : Look) (own : OwnL) : List (Nat × OP) → Option (List Upd)
 | [] => some []
 | (j, p) :: ps => match Zo9 L own ps with
  | some us => match lkO own j with
   | some x => match x.owner, putO (L.upds us) p x with
    | true, some us' => some (us ++ us')
    | _, _ => none
   | none => none
  | none => none
def Zln (L : Look) (h : Hint) (k : OutK) : Option (List Upd × List Prop) :=
 match k, h.outs with
 | .no, [] => some ([], [])
 | .box i q, [(i', .q _ 0 cs own)] => match Nat.beq i i' with | true => some ([.b q (.cells cs own)], []) | false => none
 | .roots i ps, [(i', .v _ own)] => match Nat.beq i i' && Zhh (ps.map Prod.fst), Zo9 L own ps with | true, some us => some (us, []) | _, _ => none
 | .seg i p e xs m off y, [(i', .v _ own)] => match Nat.beq i i', Zbr own 0 y.cells with
  | true, some c => match Zpt h (xs.modify m fun r => setAll r off c) with
   | (zs, ob) => match putO L p (.ex e true zs) with
    | some us => some (us, ob)
    | none => none
  | _, _ => none
 | _, _ => none
def Zw5 (bor : Bool) (r : AD) (outs : List (Nat × AD)) : Bool := !bor || (Zey r && outs.all fun q => Zey q.2)
def Z10f (P : Program) (L : Look) (d : Nat) (g : Operand) (args : List Operand) (h : Hint) : Ans :=
 match evV L g, h.r with
 | some (.func f caps), some r => match decide (((P.funcs[f]?).map fun fn => fn.body.isSome && fn.name != "runtime.NumGoroutine") = some true), Zn8 P L h args with
  | true, some (L1, us1, gs, k, ob1) => match Zpr L1 h args gs, Zln (L.upds us1) h k with
   | some (ads, bor, ob2), some (us2, ob3) => match Zw5 bor r h.outs with
    | true => match r with
     | .v x own => match Z4l (.t d) own with
      | false => some (us1 ++ us2 ++ fresh d ++ [.t d (.v x, own)], ob1 ++ ob2 ++ ob3 ++ [FnO P f (ads ++ caps.map fun c => .v c []) r h.outs])
      | true => none
     | .q 0 0 cs own => some (us1 ++ us2 ++ [.f (.bp d), .b d (.cells cs own), .t d (.ptr d 0, [])], ob1 ++ ob2 ++ ob3 ++ [FnO P f (ads ++ caps.map fun c => .v c []) r h.outs])
     | .q 0 (m + 1) cs [] => some (us1 ++ us2 ++ [.f (.bp d), .b d (.part (m + 1) cs), .t d (.ptr d 0, [])], ob1 ++ ob2 ++ ob3 ++ [FnO P f (ads ++ caps.map fun c => .v c []) r h.outs])
     | .q _ _ _ _ => none
     | .io _ _ => none
    | false => none
   | _, _ => none
  | _, _ => none
 | _, _ => none
end Go.Bv

namespace Go.Bv
open Go.RowKit
variable {E : Env} {P : Program} {n : Nat} {L L' : Look} {a : Act} {w w' : World} {G G' : Gho} {D D' : LP → Prop} {o : Oper} {d : Nat} {h : Hint} {ups : List Upd} {obs : List Prop}
theorem Z87 : ∀ {own : OwnL} {L : Look} {j : Nat} {p : OP} {π : Path}, (j, OE.al p π) ∈ own → NoRef (Z6l p) (L.upds (fsOf' own))
 | [], L, j, p, π, h => by cases h
 | (k, x) :: l, L, j, p, π, h => by
  have keep : ∀ {own : OwnL} {L : Look} {r : Ref}, NoRef r L → NoRef r (L.upds (fsOf' own)) := by
   intro own
   induction own with
   | nil => intro L r h; exact h
   | cons q l ih =>
    obtain ⟨k, x⟩ := q
    intro L r h
    cases x with
    | al p π => exact ih (h.f _)
    | app e => exact ih h
    | ex e dp xs => exact ih h
    | sb p π lo sz n => exact ih h
  rcases List.mem_cons.1 h with e | hm
  ·cases e
   exact keep (L := L.upd (.f (Z6l p))) (NoRef.of _ _)
  ·cases x with
   | al q π' => exact Z87 (own := l) (L := L.upd (.f (Z6l q))) hm
   | app e => exact Z87 (own := l) (L := L) hm
   | ex e dp xs => exact Z87 (own := l) (L := L) hm
   | sb q π' lo sz n => exact Z87 (own := l) (L := L) hm
theorem Inv.fsOf' : ∀ {own : OwnL} {L : Look}, Inv E L a w G → Inv E (L.upds (fsOf' own)) a w G
 | [], L, h => h
 | (k, x) :: l, L, h => by
  cases x with
  | al p π => exact (h.forget (Z6l p)).fsOf' (own := l)
  | app e => exact h.fsOf' (own := l)
  | ex e dp xs => exact h.fsOf' (own := l)
  | sb p π lo sz n => exact h.fsOf' (own := l)
theorem Zp1 : ∀ {own : OwnL} {L : Look} {own' : OwnL} {ps : List (Nat × OP)}, Zex L own = some (own', ps) → ∀ j p π, (j, OE.al p π) ∈ own → π = []
 | [], L, own', ps, h, j, p, π, hm => by cases hm
 | (k, .al q []) :: l, L, own', ps, h, j, p, π, hm => by
  simp only [Zex] at h
  split at h
  ·rename_i e dp xs own2 ps2 hr h2
   rcases List.mem_cons.1 hm with e | hm
   ·cases e; rfl
   ·exact Zp1 h2 j p π hm
  ·cases h
 | (k, .al q (z :: π')) :: l, L, own', ps, h, j, p, π, hm => by simp [Zex] at h
 | (k, .app e) :: l, L, own', ps, h, j, p, π, hm => by simp [Zex] at h
 | (k, .ex e dp xs) :: l, L, own', ps, h, j, p, π, hm => by simp [Zex] at h
 | (k, .sb q π' lo sz n) :: l, L, own', ps, h, j, p, π, hm => by simp [Zex] at h
def Zzs (E : Env) (L1 L2 : Look) (a : Act) (w : World) (G : Gho) (args : List Operand) (ioc : OwnL) : OutK → Prop
 | .no => L1 = L2
 | .box m q => L1 = L2.noB q ∧ Av (DB q) L1 ∧ ∃ x off, args[m]? = some x ∧ a.eval x = .pointer (some ⟨G.bx q, off, none⟩)
 | .roots i ps => L1 = Zqd L2 ps ∧ ps.Pairwise (fun p q => p.2 ≠ q.2) ∧ ∃ x, args[i]? = some x ∧ ∀ j p, (j, p) ∈ ps → Zi0 E a w G p ∧ (Value.flat (a.eval x))[j]? = some (G.pv p)
 | .seg i p e xs m off y => L1 = L2.rmP p ∧ NoRef (Z6l p) L2 ∧ Zi0 E a w G p ∧ ∃ x, args[i]? = some x ∧ ∃ c us e2 sz b0 cap FA FC, Zbr ioc 0 y.cells = some c ∧ SegOk E.P G w p e xs m off c.length (a.eval x).cells.toList us e2 sz b0 cap FA FC ∧ Rel G.X w y (a.eval x) ∧ y.solid = true ∧ y.cells.all AV.dry1 = true
theorem Zev {G : Gho} {i : Nat} {q : AD} : ∀ (xs : List Operand) (k : Nat), (∀ x, k ≤ i → xs[i - k]? = some x → AIn P G.X w (Z25 G) i q (a.eval x)) → Zds P G w a k xs (Zs0 i q k xs)
 | [], k, h => rfl
 | x :: xs, k, h => by
  refine ⟨_, _, rfl, ?_, Zev xs (k + 1) (fun y hk hy => h y (by omega) (by rw [show i - k = i - (k + 1) + 1 by omega]; simpa using hy))⟩
  intro z hz
  cases hb : Nat.beq k i with
  | false => rw [hb] at hz; cases hz
  | true =>
   have := Nat.eq_of_beq_eq_true hb
   subst this
   rw [hb] at hz; cases hz
   exact h x (Nat.le_refl _) (by simp)
theorem Zld {p : OP} {m sz off : Nat} : ∀ {js : List Nat} {j : Nat}, j ∈ js → (j, OE.al p [(m, sz, off + j)]) ∈ Zle p m sz off js
 | [], j, h => by cases h
 | k :: js, j, h => by
  rcases List.mem_cons.1 h with e | h
  ·cases e; simp [Zle]
  ·simp [Zle, Zld h]
theorem Zg6 {P : Program} {tk : List Nat} : ∀ (xs : List Operand) (i : Nat) (gs : List (Option AD)), Zds P G w a i xs gs → Zds P G w a i xs (Zsl P tk i xs gs)
 | [], i, gs, h => by
  rw [show gs = [] from h]; exact rfl
 | x :: xs, i, gs, ⟨g, r, e, h1, h2⟩ => by
  subst e
  unfold Zsl
  refine ⟨_, _, rfl, ?_, Zg6 xs (i + 1) r h2⟩
  intro q hq
  split at hq
  ·rename_i z
   split at hq
   ·rename_i s hs
    cases hq
    refine ⟨⟨none, 0, 0, rfl⟩, fun j oe hj => ?_⟩
    have hj' := List.mem_singleton.1 hj
    cases hj'
    refine ⟨rfl, .slice none 0 0, [], rfl, ⟨_, s, [], [], .inl rfl, hs, World.ownsRow_nil w 0 _ s, by simp, ?_, by simp [blks, Value.ownBlock], by simp, by simp⟩, by simp⟩
    generalize Nat.beq (_ % 2) 1 = dp
    cases dp with
    | true => exact ⟨rfl, rfl⟩
    | false => exact ⟨rfl, rfl⟩
   ·cases hq
  ·exact h1 q hq
theorem Zn7 (hI : Inv E L a w G) {args : List Operand} {L1 : Look} {us : List Upd} {gs : List (Option AD)} {k : OutK} {ob : List Prop} (hh : Zn8 E.P L h args = some (L1, us, gs, k, ob)) (hob : ∀ p ∈ ob, p) :
  ∃ G1 D, Stp D w w G G1 ∧ (∀ i j, ¬ D (.arg i j)) ∧ Inv E L1 a w G1 ∧ Zds E.P G1 w a 0 args gs ∧ Zzs E L1 (L.upds us) a w G1 args h.ioc k := by
 unfold Zn8 at hh
 split at hh
 ·split at hh
  ·rename_i L2 us2 gs2 k2 hg
   cases hh
   obtain ⟨G1, D, h1, h2, h3, h4, h5, _, _, h6⟩ := Ze7 args L G 0 _ _ _ _ hg hI
   refine ⟨G1, D, h1, h2, h3, Zg6 _ _ _ h4, ?_⟩
   cases k with
   | no => exact h6
   | box m q =>
    obtain ⟨k1, k2, _, x, k3, k4⟩ := h6
    exact ⟨k2, k1, x, by simpa using k3, by rw [h5]; exact k4⟩
   | roots _ _ => exact h6.elim
   | seg _ _ _ _ _ _ _ => exact h6.elim
  ·cases hh
 ·rename_i i _ hio
  unfold lend at hh
  split at hh
  ·rename_i t hi
   split at hh
   ·rename_i y own ht
    obtain ⟨htn, hr, hoo⟩ := hI.tm t _ _ ht
    have hr' : Rel G.X w y (a.eval (.tmp t)) := hr
    split at hh
    ·rename_i j0 p m sz o0 π rest
     split at hh
     ·rename_i e xs c hroot hfill
      split at hh
      ·rename_i hck
       cases hh
       simp only [Bool.and_eq_true] at hck
       obtain ⟨⟨⟨⟨hsol, hdry⟩, hnod⟩, hex⟩, hle⟩ := hck
       have hown : (j0, OE.al p ((m, sz, o0) :: π)) :: rest = Zle p m sz (o0 - j0) (Zfz h.ioc) := hob _ (by simp)
       obtain ⟨r, hr1, hr2, hr3, hr4⟩ : ∃ r, xs[m]? = some r ∧ r.length = sz ∧ (o0 - j0) + c.length ≤ sz ∧ (r.drop (o0 - j0)).take c.length = c := hob _ (by simp)
       have i1 := hI.fsOf' (own := (j0, OE.al p ((m, sz, o0) :: π)) :: rest)
       have hnr : NoRef (Z6l p) (L.upds (fsOf' ((j0, OE.al p ((m, sz, o0) :: π)) :: rest))) := Z87 (L := L) (List.mem_cons_self)
       obtain ⟨G1, h1, h2, h3, h4, h5, h6, h7, us, e2, b0, cap, FA, FC, h8⟩ := Ztd i1 (e := e) (xs := xs) (m := m) (sz := sz) (off := o0 - j0) (y := y) (u := a.eval (.tmp t)) (ioc := h.ioc) (c := c) (r := r) i hnr hroot hr' hsol
        (fun j hj => by
         obtain ⟨v, hv, ho⟩ := hoo j _ (hown ▸ Zld hj)
         exact ⟨v, hv, ho.1⟩) hnod hex hfill hr1 hr2 hr3 hr4
       refine ⟨G1, _, h1, (fun i j hq => by cases hq), h2, Zev args 0 (fun x _ hx => ?_), rfl, hnr, h7, .tmp t, hi, c, us, e2, sz, b0, cap, FA, FC, hfill, h8, by rw [h6]; exact hr', hsol, hdry⟩
       rw [Nat.sub_zero, hi] at hx
       cases hx
       exact ⟨by rw [h6]; exact hr', h3⟩
      ·cases hh
     ·cases hh
    ·split at hh
     ·rename_i own' ps hent
      cases hh
      have i1 := hI.fsOf' (own := own)
      obtain ⟨G1, D, h1, h2, h3, h4, h5, h6, h7, h8, h9⟩ := Zm0 (cells := Value.flat (a.eval (.tmp t))) (i := i) own _ G own' ps hent i1 (fun j p π hm => by
       refine ⟨Z87 hm, ?_⟩
       have := Zp1 hent j p π hm
       subst this
       obtain ⟨v, hv, ho⟩ := hoo j _ hm
       have : v = G.pv p := ho.1
       rw [← this]; exact hv)
      refine ⟨G1, D, h1, h2, h3, Zev args 0 (fun x _ hx => ?_), rfl, h9, .tmp t, hi, fun j p hj => ⟨(h8 j p hj).1, (h8 j p hj).2.1⟩⟩
      rw [Nat.sub_zero, hi] at hx
      cases hx
      exact ⟨Rel.mono h1.ext _ _ hr', h4⟩
     ·cases hh
   ·cases hh
  ·cases hh
end Go.Bv

namespace Go.Bv
open Go.RowKit
variable {E : Env} {P : Program} {n : Nat} {L L' : Look} {a : Act} {w w' : World} {G G' : Gho} {D D' : LP → Prop} {o : Oper} {d : Nat} {h : Hint} {ups : List Upd} {obs : List Prop}
def lkP : List (Nat × OP) → Nat → Option OP
 | [], _ => none
 | (k, p) :: l, j => if k = j then some p else lkP l j
theorem Zvl : ∀ {ps : List (Nat × OP)} {j : Nat} {p : OP}, Zhh (ps.map Prod.fst) = true → (j, p) ∈ ps → lkP ps j = some p
 | [], j, p, _, h => by cases h
 | (k, q) :: l, j, p, hn, h => by
  simp only [List.map_cons, Zhh, Bool.and_eq_true, Bool.not_eq_true'] at hn
  rcases List.mem_cons.1 h with e | h
  ·cases e; simp [lkP]
  ·have hne : k ≠ j := by
    rintro rfl
    have : k ∈ l.map Prod.fst := List.mem_map.2 ⟨_, h, rfl⟩
    rw [Zfy.2 this] at hn
    cases hn.1
   simp only [lkP, if_neg hne]
   exact Zvl hn.2 h
def Zmb (k : OutK) : Nat × Nat → LP
 | (0, j) => .arg 0 j
 | (i + 1, j) => match k with
  | .no => .arg 0 0
  | .box _ q => match j with | 0 => .box q | j + 1 => .own (.b q j)
  | .roots _ ps => match j with | 0 => .arg 0 0 | j + 1 => match lkP ps j with | some p => .own p | none => .arg 0 0
  | .seg _ p _ _ _ _ _ => .own p
def Zka : Option Obj → List Value
 | some (.cells us _ _) => us.toList
 | _ => []
def pvOf (k : OutK) (G : Gho) (w' : World) : OP → Value :=
 match k with
 | .box _ q => pvB G.pv q (Zka w'.heap[G.bx q]?)
 | _ => G.pv
def ddOf : OutK → LP → Prop
 | .box _ q => DB q
 | _ => fun _ => False
theorem Zuz {k : OutK} {p : OP} (h : ¬ ddOf k (.own p)) : pvOf k G w' p = G.pv p := by
 cases k with
 | box i q =>
  refine Zo8 (fun hd => h ?_)
  cases p <;> first | exact hd | exact hd.elim
 | no => rfl
 | roots i ps => rfl
 | seg i p e xs m off y => rfl
theorem Av.args (L : Look) : Av (fun q => ∃ i j, q = .arg i j) L := by
 have ke : ∀ (p : OP) (oe : OE), okE (fun q => ∃ i j, q = LP.arg i j) p oe := by
  intro p oe
  cases oe with
  | al q π => exact .inr (by rintro ⟨i, j, e⟩; cases e)
  | app e => rintro ⟨i, j, e⟩; cases e
  | ex e dp xs => rintro ⟨i, j, e⟩; cases e
  | sb q π lo sz n => rintro ⟨i, j, e⟩; cases e
 refine ⟨fun s sv own hs => ⟨?_, fun j oe hj => ke _ _⟩, fun i x hi => ⟨?_, ?_⟩, fun i own hi j oe hj => ke _ _⟩
 ·cases sv <;> first | trivial | (rintro ⟨i, j, e⟩; cases e)
 ·rintro (⟨i, j, e⟩ | ⟨i, j, e⟩) <;> cases e
 ·cases x with
  | cells cs own => exact fun j oe hj => ke _ _
  | map ks vs => trivial
  | part m cs => trivial
  | ref q => rintro ⟨i, j, e⟩; cases e
theorem Av.never (L : Look) : Av (fun _ => False) L := by
 refine ⟨fun s sv own hs => ⟨Z7o, fun j oe hj => Z1i⟩, fun i x hi => ⟨fun h => h.elim id id, ?_⟩, fun i own hi j oe hj => Z1i⟩
 cases x with
 | cells cs own => exact fun j oe hj => Z1i
 | map ks vs => trivial
 | part m cs => trivial
 | ref q => exact fun h => h
def Z9r (L : Look) (own : OwnL) : List (Nat × OP) → Look
 | [] => L
 | (j, p) :: ps => match lkO own j with
  | some x => (Z9r L own ps).setP p x
  | none => Z9r L own ps
theorem Z11s {p : OP} {x : OE} {s : Nat} {y : BX} (h : (L.setP p x).b s = some y) : ∃ z, L.b s = some z := by
 cases p with
 | b r j =>
  simp only [Look.setP] at h
  split at h
  ·simp only [Option.map_eq_some_iff] at h
   obtain ⟨z, h1, _⟩ := h
   exact ⟨z, h1⟩
  ·exact ⟨y, h⟩
 | t r j => exact ⟨y, h⟩
 | a r j => exact ⟨y, h⟩
theorem Ziy {own : OwnL} {s : Nat} : ∀ {ps : List (Nat × OP)} {y : BX}, (Z9r L own ps).b s = some y → ∃ z, L.b s = some z
 | [], y, h => ⟨y, h⟩
 | (j, p) :: ps, y, h => by
  simp only [Z9r] at h
  split at h
  ·obtain ⟨z, h1⟩ := Z11s h
   exact Ziy h1
  ·exact Ziy h
theorem rmP_b' {p : OP} {s : Nat} {z : BX} (h : L.b s = some z) : ∃ y, (L.rmP p).b s = some y := by
 cases p with
 | b r j =>
  simp only [Look.rmP]
  split
  ·exact ⟨_, by rw [h]; rfl⟩
  ·exact ⟨z, h⟩
 | t r j => exact ⟨z, h⟩
 | a r j => exact ⟨z, h⟩
theorem Zut {s : Nat} : ∀ {ps : List (Nat × OP)} {L : Look} {z : BX}, L.b s = some z → ∃ y, (Zqd L ps).b s = some y
 | [], L, z, h => ⟨z, h⟩
 | (j, p) :: ps, L, z, h => by
  obtain ⟨y, h1⟩ := rmP_b' (p := p) h
  exact Zut (ps := ps) h1
theorem Zz7 {p : OP} {x : OE} {us : List Upd} (h : putO L p x = some us) : ∀ s q, p = .b s q → ∃ z, L.b s = some z := by
 rintro s q rfl
 simp only [putO] at h
 split at h
 ·rename_i hb; exact ⟨_, hb⟩
 ·cases h
theorem Zlk : ∀ {ps : List (Nat × OP)} {L : Look} {own : OwnL} {us : List Upd}, Zo9 L own ps = some us → L.upds us = Z9r L own ps ∧ ∀ j p, (j, p) ∈ ps → (∃ x, lkO own j = some x ∧ x.owner = true) ∧ ∀ s q, p = .b s q → ∃ z, L.b s = some z
 | [], L, own, us, h => by simp only [Zo9] at h; cases h; exact ⟨rfl, fun j p hj => by cases hj⟩
 | (j, p) :: ps, L, own, us, h => by
  simp only [Zo9] at h
  split at h
  ·rename_i us1 h1
   obtain ⟨k1, k2⟩ := Zlk h1
   split at h
   ·rename_i x hx
    split at h
    ·rename_i us2 hw hp
     cases h
     refine ⟨?_, fun i q hq => ?_⟩
     ·rw [Look.upds, List.foldl_append]
      show (L.upds us1).upds us2 = _
      rw [Zj5 hp, k1]
      simp only [Z9r, hx]
     ·rcases List.mem_cons.1 hq with e | hq
      ·cases e
       refine ⟨⟨x, hx, hw⟩, fun s q e => ?_⟩
       obtain ⟨z, hz⟩ := Zz7 hp s q e
       rw [k1] at hz
       exact Ziy hz
      ·exact k2 i q hq
    ·cases h
   ·cases h
  ·cases h
theorem Zp8 {s q : Nat} {z : BX} {v : Value} (hI : Inv E L a w G) (hb : L.b s = some z) (hfr : Fr (fun b => ∃ q, Z25 G b = some q) w w') (hat : w.cell? ⟨G.bx s, q, none⟩ = some v) : w'.cell? ⟨G.bx s, q, none⟩ = some v := by
 obtain ⟨_, hl, _⟩ := hI.bo s z hb
 have hlt := World.block_lt_of_cell? w ⟨G.bx s, q, none⟩ hat
 exact (Zbs (hfr.block _ hlt (fun ⟨q, hq⟩ => by have := (Z3t hq).1; rw [hl] at this; cases this)) q).trans hat
theorem Zix {p : OP} {own : OwnL} : ∀ {ps : List (Nat × OP)} {L : Look}, (∀ q ∈ ps, p ≠ q.2) → Z9r (L.rmP p) own ps = (Z9r L own ps).rmP p
 | [], L, h => rfl
 | (j, q) :: ps, L, h => by
  have ih := Zix (p := p) (own := own) (ps := ps) (L := L) (fun q hq => h q (by simp [hq]))
  have hne : p ≠ q := h (j, q) (by simp)
  simp only [Z9r]
  cases lkO own j with
  | none => exact ih
  | some x => simp only []; rw [ih, Zxr hne]
theorem Zpq {own : OwnL} : ∀ {ps : List (Nat × OP)} {L : Look}, Inv E (Zqd L ps) a w G → ps.Pairwise (fun p q => p.2 ≠ q.2) → (∀ j p, (j, p) ∈ ps → Zi0 E a w G p ∧ ∃ x, lkO own j = some x ∧ Own E.P G w p x (G.pv p)) → Inv E (Z9r L own ps) a w G
 | [], L, hI, _, _ => hI
 | (j, p) :: ps, L, hI, hn, ho => by
  obtain ⟨n1, n2⟩ := List.pairwise_cons.1 hn
  have ih := Zpq (own := own) (ps := ps) (L := L.rmP p) hI n2 (fun i q hq => ho i q (by simp [hq]))
  rw [Zix (fun q hq => n1 q hq)] at ih
  obtain ⟨h1, x, h2, h3⟩ := ho j p (by simp)
  simp only [Z9r, h2]
  exact ih.back h1 h3
end Go.Bv

/- Values of calls, told abstractly, with what is held: part 3. -/
import Derived.Test.YtjaaacbiaimdlaaGreatDoorAvb
import Derived.WideMake
import Derived.Laws.StructEq
import Derived.Laws.BytesArg
import Derived.ChangeArms
import Derived.ProofKit
set_option linter.unusedVariables false
set_option linter.unusedSimpArgs false
namespace Go.Bv
open Go.RowKit
variable {E : Env} {P : Program} {n : Nat} {L L1 L2 : Look} {a : Act} {w w' : World} {G : Gho} {D D' : LP → Prop} {o : Oper} {d : Nat} {h : Hint} {ups : List Upd} {obs : List Prop}
theorem noB_upd' {q : Nat} {x : BX} : (L.noB q).upd (.b q x) = L.upd (.b q x) := Zcf
theorem Zqm {α : Type} {l m : List α} {i : Nat} {x : α} (h : l[i]? = some x) : (l ++ m)[i]? = some x := by
 have := (List.getElem?_eq_some_iff.1 h).1
 rw [List.getElem?_append_left this]; exact h
theorem Zqh {bor : Bool} {X' : Gh} {lab' : Lab} {args : List Operand} {caps : List Value} {k : OutK} {us2 : List Upd} {ob3 : List Prop} (hI : Inv E L1 a w G) (hB : Zzs E L1 L2 a w G args h.ioc k) (hout : Zln L2 h k = some (us2, ob3)) (hob : ∀ p ∈ ob3, p)
  (hfr : Fr (fun b => ∃ q, Z25 G b = some q) w w') (hold : ∀ b, b < w.heap.size → Z25 G b = none → X' b = G.seenX bor b ∧ lab' b = none) (hnew : ∀ b, w'.heap.size ≤ b → X' b = none ∧ lab' b = none)
  (houts : ∀ i q, (i, q) ∈ h.outs → ∃ v, (args.map a.eval ++ caps)[i]? = some v ∧ AIn E.P X' w' lab' (i + 1) q v) (hdry : bor = true → ∀ q ∈ h.outs, Zey q.2 = true) :
  Inv E (L2.upds us2) a w' (G.after bor X' lab' (Zmb k) G.bx (pvOf k G w')) := by
 have hS : Stp (fun q => ddOf k q ∨ ∃ i j, q = .arg i j) w w' G (G.after bor X' lab' (Zmb k) G.bx (pvOf k G w')) :=
  Stp.call hI hfr hold hnew (fun _ _ => rfl) (fun p hp => Zuz hp) (fun i j => by
   refine Zuz (k := k) ?_
   cases k <;> exact fun h => h) (fun _ _ => rfl)
 have hX2 : ∀ {b : Nat} {q : Nat × Nat}, lab' b = some q → (G.after bor X' lab' (Zmb k) G.bx (pvOf k G w')).X b = X' b := fun hl => Zns hI hold hl
 cases k with
 | no =>
  unfold Zln at hout
  split at hout <;> try (rename_i e _; cases e)
  ·cases hout
   have : L1 = L2 := hB
   subst this
   exact hI.step' ((Av.never _).or (Av.args _)) hS
  ·cases hout
 | box m q =>
  unfold Zln at hout
  split at hout <;> try (rename_i e _; cases e)
  ·rename_i i' cs own hom
   split at hout
   ·rename_i hii
    have := Nat.eq_of_beq_eq_true hii
    subst this
    cases hout
    obtain ⟨hL, hav, x, off, hx, hev⟩ := hB
    have i2 := hI.step' (hav.or (Av.args _)) hS
    obtain ⟨v, hv, b, us, e, h1, h2, h3, h4, h5, h6⟩ := houts _ _ (by rw [hom]; exact List.mem_singleton.2 rfl)
    rw [Zqm (x := a.eval x) (by rw [List.getElem?_map, hx]; rfl)] at hv
    cases hv
    rw [hev] at h1
    cases h1
    have hdr : bor = true → Zey (.q 0 0 cs own) = true := fun hb => hdry hb _ (by rw [hom]; exact List.mem_singleton.2 rfl)
    have hheap : w'.heap[G.bx q]? = some (.cells us e (0, 0)) := h4
    rw [hL] at i2
    have := i2.setB (d := q) (x := .cells cs own) ((hX2 h2).trans h3) (Zgc h2) ⟨us, e, hheap, Zme h5 (fun hb => by have := hdr hb; simp only [Zey, Bool.and_eq_true] at this; exact this.1), fun j oe hj =>
     Zpv hI hold h6 (fun hb => by have := hdr hb; simp only [Zey, Bool.and_eq_true] at this; exact this.2) hj (p := .b q j) rfl (fun c hc => by
      show pvB G.pv q (Zka w'.heap[G.bx q]?) (.b q j) = c
      rw [hheap]; exact Zrx hc) |>.imp fun c hc => ⟨by simpa using hc.1, hc.2⟩⟩
    rw [noB_upd'] at this
    exact this
   ·cases hout
  ·cases hout
 | roots i ps =>
  unfold Zln at hout
  split at hout <;> try (rename_i e _; cases e)
  ·rename_i i' y own hom
   split at hout
   ·rename_i us hii hput
    cases hout
    simp only [Bool.and_eq_true] at hii
    have := Nat.eq_of_beq_eq_true hii.1
    subst this
    obtain ⟨hL, hne, x, hx, hroots⟩ := hB
    have i2 := hI.step' ((Av.never _).or (Av.args _)) hS
    rw [hL] at i2
    obtain ⟨k1, k2⟩ := Zlk hput
    obtain ⟨v, hv, _, hent⟩ := houts _ _ (by rw [hom]; exact List.mem_singleton.2 rfl)
    rw [Zqm (x := a.eval x) (by rw [List.getElem?_map, hx]; rfl)] at hv
    cases hv
    have hdr : bor = true → Zk5 own = true := fun hb => by
     have := hdry hb _ (by rw [hom]; exact List.mem_singleton.2 rfl)
     simp only [Zey, Bool.and_eq_true] at this; exact this.2
    rw [k1]
    refine Zpq i2 hne (fun j p hj => ?_)
    obtain ⟨hat, hcell⟩ := hroots j p hj
    obtain ⟨⟨oe, hlk, hw⟩, hbox⟩ := k2 j p hj
    refine ⟨?_, oe, hlk, ?_⟩
    ·cases p with
     | t s q => exact hat
     | b s q =>
      -- the box stays as it is
      show w'.cell? ⟨G.bx s, q, none⟩ = some (G.pv (.b s q))
      obtain ⟨z, hz⟩ := hbox s q rfl
      obtain ⟨y', hy'⟩ := Zut (ps := ps) hz
      exact Zp8 hI (by rw [hL]; exact hy') hfr hat
     | a s q => trivial
    ·obtain ⟨c, hc, ho⟩ := Zpv (bx' := G.bx) (pv' := pvOf (.roots i ps) G w') hI hold hent hdr (Z3x hlk) (p := p) (back := Zmb (.roots i ps)) (by simp only [Zmb, Zvl hii.2 hj]) (fun c hc => by
      rw [hcell] at hc; cases hc; rfl)
     rw [hcell] at hc
     cases hc
     exact ho
   ·cases hout
  ·cases hout
 | seg i p e xs m off y =>
  unfold Zln at hout
  split at hout <;> try (rename_i e _; cases e)
  ·rename_i i' y' own hom
   split at hout
   ·rename_i c hii hfill
    have := Nat.eq_of_beq_eq_true hii
    subst this
    split at hout
    rename_i zs ob hanew
    split at hout
    ·rename_i us hput
     cases hout
     have hzs := Zed hanew hob
     obtain ⟨hL, hnr, hat, x, hx, c0, us0, e2, sz, b0, cap, FA, FC, hfill0, hseg, hrel, hsol, hdr1⟩ := hB
     have i2 := hI.step' ((Av.never _).or (Av.args _)) hS
     rw [hL] at i2
     obtain ⟨v, hv, _, hent⟩ := houts _ _ (by rw [hom]; exact List.mem_singleton.2 rfl)
     rw [Zqm (x := a.eval x) (by rw [List.getElem?_map, hx]; rfl)] at hv
     cases hv
     have hfl : Value.flat (a.eval x) = (a.eval x).cells.toList := Z4j (Z3p hrel hsol)
     rw [hfl] at hent
     have hold' : ∀ b ∈ b0 :: (FA ++ FC), b < w.heap.size ∧ Z25 G b = none := fun b hb => by
      have hl := (hseg.own b hb).1
      refine ⟨Nat.lt_of_not_le (fun hle => by have := (hI.new b hle).2; rw [hl] at this; cases this), ?_⟩
      cases ha : Z25 G b with
      | none => rfl
      | some q => have := (Z3t ha).1; rw [hl] at this; cases this
     have hseg2 := hseg.stay (w' := w') (G' := G.after bor X' lab' (Zmb (.seg i p e xs m off y)) G.bx (pvOf (.seg i p e xs m off y) G w')) rfl (fun b hb => by
      have := hS.same b (hold' b hb).1 (fun q hq => by
       rw [(hseg.own b hb).1] at hq; cases hq
       rintro (hh | ⟨_, _, hh⟩)
       ·exact hh
       ·cases hh)
      exact ⟨this.1, this.2.2, this.2.1⟩)
     obtain ⟨F, d1, d2, d3⟩ := Ze8 (P := E.P) (G := { X := X', bx := G.bx, lab := fun b => (lab' b).map fun q => .own (.a q.1 q.2), pv := G.pv }) (w := w') y.cells 0 c (a.eval x).cells.toList own (fun j => .a (i + 1) (j + 1)) hfill (Zia (Z2t hrel hsol) hdr1) (fun j oe hj hlt hw => by
      rw [Nat.zero_add] at hj
      obtain ⟨_, c1, F1, h1, h2, h3⟩ := hent j oe hj
      exact ⟨c1, h1, F1, h2, fun b hb => by simp [h3 b hb]⟩) (fun i j e => by cases e; rfl)
     have hF : ∀ b ∈ F, ∃ q, lab' b = some q ∧ q.1 = i + 1 := fun b hb => by
      obtain ⟨_, j, _, hl⟩ := d3 b hb
      simp only [Option.map_eq_some_iff] at hl
      obtain ⟨q, hq1, hq2⟩ := hl
      refine ⟨q, hq1, ?_⟩
      injection hq2 with h1
      injection h1
     have hown := hseg2.back d1 (by rw [Z8w hfill, Z8w hfill0]) d2 (fun b hb => by
      obtain ⟨q, hq1, hq2⟩ := hF b hb
      obtain ⟨q1, q2⟩ := q
      simp only at hq2
      subst hq2
      exact ⟨Zgc hq1, (hX2 hq1).trans (d3 b hb).1⟩) (fun b hb hm => by
      obtain ⟨q, hq1, _⟩ := hF b hb
      have := (hold b (hold' b hm).1 (hold' b hm).2).2
      rw [hq1] at this; cases this) hzs
     rw [Zj5 hput]
     refine i2.back ?_ hown
     cases p with
     | t s q => exact hat
     | b s q =>
      obtain ⟨z, hz⟩ := Zz7 hput s q rfl
      obtain ⟨y', hy'⟩ := rmP_b' (p := .b s q) hz
      exact Zp8 (L := L1) (G := G) (v := G.pv (.b s q)) hI (by rw [hL]; exact hy') hfr hat
     | a s q => trivial
    ·cases hout
   ·cases hout
  ·cases hout
end Go.Bv

namespace Go.Bv
open Go.RowKit
variable {E : Env} {P : Program} {n : Nat} {L L1 L2 : Look} {a : Act} {w w' : World} {G : Gho} {D D' : LP → Prop} {o : Oper} {d : Nat} {h : Hint} {ups : List Upd} {obs : List Prop}
def resT (d : Nat) : LP → LP
 | .arg 0 (j + 1) => .own (.t d j)
 | .own (.t k j) => if k = d then .arg 0 0 else .own (.t k j)
 | l => l
def resB (d : Nat) : LP → LP
 | .arg 0 (j + 1) => .own (.b d j)
 | .arg 0 0 => .box d
 | .own (.b k j) => if k = d then .arg 1 0 else .own (.b k j)
 | .box k => if k = d then .arg 1 0 else .box k
 | l => l
def Z10a (pv : OP → Value) (d : Nat) (us : List Value) : OP → Value
 | .t k j => if k = d then (us[j]?).getD undef else pv (.t k j)
 | p => pv p
theorem Own.relab {f : LP → LP} {pv' : OP → Value} {p : OP} {oe : OE} {u : Value} {F : List Nat} (hw : oe.owner = true) (hr : Rs P G.X w oe u F) (hF : ∀ b ∈ F, ∃ l, G.lab b = some l ∧ f l = .own p) (hpv : pv' p = u) : Own P (G.relab f pv') w p oe u := by
 have key : (G.relab f pv').pv p = u ∧ ∃ F, Rs P (G.relab f pv').X w oe u F ∧ ∀ b ∈ F, (G.relab f pv').lab b = some (.own p) :=
  ⟨hpv, F, hr, fun b hb => by obtain ⟨l, h1, h2⟩ := hF b hb; simp [Gho.relab, h1, h2]⟩
 cases oe with
 | app e => exact key
 | ex e dp xs => exact key
 | al q π => cases hw
 | sb q π lo sz n => cases hw
theorem Zys {X' : Gh} {lab' : Lab} {back : Nat × Nat → LP} {bx' : Nat → Nat} {pv' : OP → Value} {bor : Bool} (hI : Inv E L a w G) (hold : ∀ b, b < w.heap.size → Z25 G b = none → X' b = G.seenX bor b ∧ lab' b = none) {oe : OE} {u : Value} {F : List Nat} (h : Rs P X' w' oe u F) (hl : ∀ b ∈ F, ∃ q, lab' b = some q) (hbor : bor = true → ∃ e xs, oe = .ex e true xs) :
  Rs P (G.after bor X' lab' back bx' pv').X w' oe u F := by
 have hX : ∀ b ∈ F, (G.after bor X' lab' back bx' pv').X b = X' b := fun b hb => by obtain ⟨q, hq⟩ := hl b hb; exact Zns hI hold hq
 cases hb : bor with
 | false =>
  have : (G.after false X' lab' back bx' pv').X = X' := funext fun b => Zee rfl
  rw [this]; exact h
 | true =>
  obtain ⟨e, xs, rfl⟩ := hbor hb
  obtain ⟨e', sz, us, F', h0, h1, h2, h3, h4, rfl, h6, h7⟩ := h
  exact ⟨e', sz, us, F', h0, h1, h2, h3, h4, rfl, h6, fun b hb' => by rw [← hb]; exact (hX b hb').trans (h7 b hb')⟩
theorem Z11w (hI : Inv E L a w G) (hd : o.dst = some d) (hlt : d < E.n) {c : Call} (ho : o.op = .call c) {g : Operand} (hg : c.callee = .value g) (hop : Z10f E.P L d g c.args.toList h = some (ups, obs)) (hob : ∀ p ∈ obs, p) : Does E L o a w ups := by
 unfold Z10f at hop
 split at hop
 ·rename_i f caps r hgv hr
  split at hop
  ·rename_i L1 us1 gs k ob1 hbody hhand
   split at hop
   ·rename_i ads bor ob2 us2 ob3 hargs hout
    split at hop
    ·rename_i hdry
     have hbody := of_decide_eq_true hbody
     -- whatever the result is
     have main : ∀ (obs : List Prop), obs = ob1 ++ ob2 ++ ob3 ++ [FnO E.P f (ads ++ caps.map fun c => .v c []) r h.outs] → (∀ p ∈ obs, p) →
       (∀ (w' : World) (G2 : Gho) (X' : Gh) (lab' : Lab) (u : Value), Inv E ((L.upds us1).upds us2) a w' G2 → AIn E.P X' w' lab' 0 r u →
        (∀ x, Rel X' w' x u → (bor = true → dryV x = true) → Rel G2.X w' x u) → (∀ xs us, RelL X' w' xs us → (bor = true → xs.all AV.dry1 = true) → RelL G2.X w' xs us) →
        (∀ b j, lab' b = some (0, j) → G2.lab b = some (.arg 0 j) ∧ G2.X b = X' b) →
        (∀ oe v F, Rs E.P X' w' oe v F → (∀ b ∈ F, ∃ q, lab' b = some q) → (bor = true → ∃ e xs, oe = .ex e true xs) → Rs E.P G2.X w' oe v F) → (bor = true → Zey r = true) → SR E (L.upds ups) (a.put (some d) u) w') → Does E L o a w ups := by
      intro obs hobs hob hres
      subst hobs
      obtain ⟨G1, D, h1, h2, i1, hfl, hB⟩ := Zn7 hI hhand (fun p hp => hob p (by simp [hp]))
      obtain ⟨hA1, hA2⟩ := Zf5 i1 _ _ 0 _ _ _ hargs (fun p hp => hob p (by simp [hp])) hfl
      obtain ⟨us, hu, hrc⟩ := Z2k hI hgv
      have hrc1 : RelL G1.X w caps us := RelL.mono h1.ext _ _ hrc
      have hF : FnO E.P f (ads ++ caps.map fun c => .v c []) r h.outs := hob _ (by simp)
      have hAI : AIns E.P (G1.seenX bor) w (Z25 G1) 0 (ads ++ caps.map fun c => .v c []) (c.args.toList.map a.eval ++ us) := by
       cases hb : bor with
       | false => exact (hA2 hb).append (AIns.plain hrc1)
       | true => exact hA1.append (AIns.plain (RelL.mono Z9h _ _ hrc1))
      intro Q
      unfold Oper.wp
      have hexec : (execOp a.eval o).run E.P w = .ok (.enter f (c.args.toList.map a.eval ++ us).toArray) w := by
       simp only [execOp, ho, Sem.run_bind]
       simp [resolve, hg, Deferred.ofValue, hu, invoke, Zo3 hbody]
      rw [hexec, Oper.upon_enter]
      refine (hF (G1.seenX bor) w _ (Z25 G1) hAI (fun b hb => ?_) (E.gt.on i1.fr (fun b hb hq => ?_))).mono ?_
      ·obtain ⟨n1, n2⟩ := i1.new b hb
       refine ⟨?_, by simp [Z25, n2]⟩
       cases bor with
       | false => exact n1
       | true => simp [Gho.seenX, Gho.open, n2, n1]
      ·obtain ⟨q, hq⟩ := hq
       rcases i1.may b _ (Z3t hq).1 with h | h
       ·omega
       ·exact h
      ·rintro e w1 ⟨u, X', lab', rfl, hfr, hold, hnew, hin, houts⟩
       show SR E _ (a.put o.dst u) w1
       rw [hd]
       have hdr : bor = true → Zey r = true ∧ ∀ q ∈ h.outs, Zey q.2 = true := fun hb => by
        simp only [Zw5, hb, Bool.not_true, Bool.false_or, Bool.and_eq_true, List.all_eq_true] at hdry
        exact hdry
       have i2 := Zqh i1 hB hout (fun p hp => hob p (by simp [hp])) hfr hold hnew houts (fun hb => (hdr hb).2)
       exact hres w1 _ X' lab' u i2 hin (fun x hx hb => Zx3 hx hb) (fun xs us hx hb => Zme hx hb) (fun b j hl => ⟨Zgc hl, Zns i1 hold hl⟩) (fun oe v F hr hl hb => Zys i1 hold hr hl hb) (fun hb => (hdr hb).1)
     cases r with
     | io x own => cases hop
     | v x own =>
      simp only [] at hop
      split at hop
      ·rename_i hno
       cases hop
       refine main _ rfl hob ?_
       intro w' G2 X' lab' u i2 hin hrel hrelL hlab hrs hdr
       obtain ⟨hx, hent⟩ := hin
       obtain ⟨i3, a3⟩ := i2.fresh hlt
       have hS : Stp (fun q => DR (.t d) q ∨ ∃ i j, q = .arg i j) w' w' G2 (G2.relab (resT d) (Z10a G2.pv d (Value.flat u))) := by
        refine Stp.relab i2 (fun l hl => ?_) (fun p hp => ?_) (fun i j => rfl)
        ·cases l with
         | arg i j => exact absurd (.inr ⟨_, _, rfl⟩) hl
         | own p =>
          cases p with
          | t q j => have : q ≠ d := fun e => hl (.inl e); simp [resT, this]
          | _ => rfl
         | _ => rfl
        ·cases p with
         | t q j => have : q ≠ d := fun e => hp (.inl e); simp [Z10a, this]
         | _ => rfl
       have i4 := i3.step' (a3.or (Av.args _)) hS
       have i5 := i4.setT hlt (sv := .v x) (own := own) (u := u) (hrel x hx (fun hb => by have := hdr hb; simp only [Zey, Bool.and_eq_true] at this; exact this.1)) (fun j oe hj => by
        obtain ⟨hw, c', F, hc, hr1, hr2⟩ := hent j oe hj
        refine ⟨c', hc, Own.relab hw (hrs oe c' F hr1 (fun b hb => ⟨_, hr2 b hb⟩) (fun hb => by have := hdr hb; simp only [Zey, Bool.and_eq_true] at this; exact Zea this.2 j oe hj)) (fun b hb => ⟨_, (hlab b _ (hr2 b hb)).1, rfl⟩) ?_⟩
        simp [Z10a, hc])
       have e : L.upds (us1 ++ us2 ++ fresh d ++ [.t d (.v x, own)]) = (((L.upds us1).upds us2).upds (fresh d)).upd (.t d (.v x, own)) := by simp only [Look.upds, List.foldl_append, List.foldl_cons, List.foldl_nil]
       rw [e]
       exact ⟨_, i5⟩
      ·cases hop
     | q off m cs own =>
      split at hop
      ·rename_i heq
       cases heq
      ·rename_i cs own heq
       cases heq
       cases hop
       refine main _ rfl hob ?_
       intro w' G2 X' lab' u i2 hin hrel hrelL hlab hrs hdr
       obtain ⟨b, us, e, rfl, hl, hX, hheap, hcs, hent⟩ := hin
       obtain ⟨i3, a3⟩ := i2.clearB d
       obtain ⟨hl2, hX2⟩ := hlab b 0 hl
       let bx' : Nat → Nat := fun k => if k = d then b else G2.bx k
       let G3 : Gho := { G2.relab (resB d) (pvB G2.pv d us.toList) with bx := bx' }
       have hS : Stp (fun q => DR (.bp d) q ∨ ∃ i j, q = .arg i j) w' w' G2 G3 := by
        have := Stp.relab (D := fun q => DR (.bp d) q ∨ ∃ i j, q = .arg i j) i2 (f := resB d) (pv' := pvB G2.pv d us.toList) (fun l hl => by
          cases l with
          | arg i j => exact absurd (.inr ⟨_, _, rfl⟩) hl
          | own p =>
           cases p with
           | b q j => have : q ≠ d := fun e => hl (.inl e); simp [resB, this]
           | _ => rfl
          | box q => have : q ≠ d := fun e => hl (.inl e); simp [resB, this]
          | _ => rfl) (fun p hp => Zo8 (fun hh => hp (.inl hh))) (fun i j => rfl)
        exact ⟨this.os, this.tape, this.output, this.size, this.same, this.ext, this.was, this.new, this.may, fun k hk => by
         have : k ≠ d := fun e => hk (.inl e)
         simp [G3, bx', this], this.pv, ⟨this.pin.1, fun k hk => by
         have := i2.pin.2.1
         have : k ≠ d := by omega
         simp [G3, bx', this]⟩⟩
       have i4 := i3.step' (a3.or (Av.args _)) hS
       have hbx : G3.bx d = b := by simp [G3, bx']
       have i5 := i4.setB (d := d) (x := .cells cs own) (by rw [hbx]; show G2.X b = _; rw [hX2, hX]; rfl) (by
         rw [hbx]; show (G2.lab b).map (resB d) = _; rw [hl2]; rfl) ⟨us, e, by rw [hbx]; exact hheap, hrelL cs us.toList hcs (fun hb => by have := hdr hb; simp only [Zey, Bool.and_eq_true] at this; exact this.1), fun j oe hj => by
         obtain ⟨hw, c', F, hc, hr1, hr2⟩ := hent j oe hj
         refine ⟨c', by simpa using hc, ?_⟩
         have := Own.relab (P := E.P) (G := G2) (w := w') (f := resB d) (pv' := pvB G2.pv d us.toList) (p := .b d j) hw (hrs oe c' F hr1 (fun b hb => ⟨_, hr2 b hb⟩) (fun hb => by have := hdr hb; simp only [Zey, Bool.and_eq_true] at this; exact Zea this.2 j oe hj)) (fun b hb => ⟨_, (hlab b _ (hr2 b hb)).1, rfl⟩) (Zrx hc)
         cases oe with
         | app e => exact this
         | ex e dp xs => exact this
         | al q π => cases hw
         | sb q π lo sz n => cases hw⟩
       have i6 := i5.setT hlt (sv := .ptr d 0) (own := []) (u := .pointer (some ⟨b, 0, none⟩)) (by rw [RelS, hbx]) (fun j oe hj => by cases hj)
       have e : L.upds (us1 ++ us2 ++ [.f (.bp d), .b d (.cells cs own), .t d (.ptr d 0, [])]) = ((((L.upds us1).upds us2).upd (.f (.bp d))).upd (.b d (.cells cs own))).upd (.t d (.ptr d 0, [])) := by simp [Look.upds, List.foldl_append]
       rw [e]
       rw [Zcf] at i6
       exact ⟨_, i6⟩
      ·rename_i m cs heq
       cases heq
       cases hop
       refine main _ rfl hob ?_
       intro w' G2 X' lab' u i2 hin hrel hrelL hlab hrs hdr
       obtain ⟨b, us, e, rfl, hl, hX, hheap, hcs, hent⟩ := hin
       obtain ⟨i3, a3⟩ := i2.clearB d
       obtain ⟨hl2, hX2⟩ := hlab b 0 hl
       let bx' : Nat → Nat := fun k => if k = d then b else G2.bx k
       let G3 : Gho := { G2.relab (resB d) (pvB G2.pv d us.toList) with bx := bx' }
       have hS : Stp (fun q => DR (.bp d) q ∨ ∃ i j, q = .arg i j) w' w' G2 G3 := by
        have := Stp.relab (D := fun q => DR (.bp d) q ∨ ∃ i j, q = .arg i j) i2 (f := resB d) (pv' := pvB G2.pv d us.toList) (fun l hl => by
          cases l with
          | arg i j => exact absurd (.inr ⟨_, _, rfl⟩) hl
          | own p =>
           cases p with
           | b q j => have : q ≠ d := fun e => hl (.inl e); simp [resB, this]
           | _ => rfl
          | box q => have : q ≠ d := fun e => hl (.inl e); simp [resB, this]
          | _ => rfl) (fun p hp => Zo8 (fun hh => hp (.inl hh))) (fun i j => rfl)
        exact ⟨this.os, this.tape, this.output, this.size, this.same, this.ext, this.was, this.new, this.may, fun k hk => by
         have : k ≠ d := fun e => hk (.inl e)
         simp [G3, bx', this], this.pv, ⟨this.pin.1, fun k hk => by
         have := i2.pin.2.1
         have : k ≠ d := by omega
         simp [G3, bx', this]⟩⟩
       have i4 := i3.step' (a3.or (Av.args _)) hS
       have hbx : G3.bx d = b := by simp [G3, bx']
       have i5 := i4.setB (d := d) (x := .part (m + 1) cs) (by rw [hbx]; show G2.X b = _; rw [hX2, hX]; rfl) (by
         rw [hbx]; show (G2.lab b).map (resB d) = _; rw [hl2]; rfl) ⟨us, e, by rw [hbx]; exact hheap, hrelL cs us.toList hcs (fun hb => by have := hdr hb; simp only [Zey, Bool.and_eq_true] at this; exact this.1)⟩
       have i6 := i5.setT hlt (sv := .ptr d 0) (own := []) (u := .pointer (some ⟨b, 0, none⟩)) (by rw [RelS, hbx]) (fun j oe hj => by cases hj)
       have e : L.upds (us1 ++ us2 ++ [.f (.bp d), .b d (.part (m + 1) cs), .t d (.ptr d 0, [])]) = ((((L.upds us1).upds us2).upd (.f (.bp d))).upd (.b d (.part (m + 1) cs))).upd (.t d (.ptr d 0, [])) := by simp [Look.upds, List.foldl_append]
       rw [e]
       rw [Zcf] at i6
       exact ⟨_, i6⟩
      ·cases hop
      ·rename_i heq
       cases heq
    ·cases hop
   ·cases hop
  ·cases hop
 ·cases hop
def Zvb (P : Program) (L : Look) (d : Nat) (T : TypeId) (x : Operand) (h : Hint) : Ans :=
 match ev L x with
 | some (.ptr k 0, _) => match L.b k with
  | some (.ref q) => match Zdi P T, Z4x P T with
   | some false, some 1 => some ([.t d (.mp q, [])], [])
   | _, _ => none
  | _ => Zy1 P L d T x h
 | _ => Zy1 P L d T x h
def Zqj (P : Program) (L : Look) (T : TypeId) (x y : Operand) (h : Hint) : Ans :=
 match Z4x P T, ev L x, evV L y with
 | some s, some (.ptr k off, _), some a => match L.b k with
  | some (.part m cs) => match fitS (Zmi h.op y) a s && Nat.ble (off + s) cs.length && Nat.ble m off with
   | true => some ([.b k (.part m (setAll cs off (a.cellsH (Zmi h.op y))))], obH (Zmi h.op y) a)
   | false => none
  | _ => none
 | _, _, _ => none
theorem Wrote.stpP {b m : Nat} (hW : Wrote w w' b) (hI : Inv E L a w G) {l : LP} (hl : G.lab b = some l) (hD : D l) (hX : G.X b = some m)
  (hc : ∀ o u, o < m → w.cell? ⟨b, o, none⟩ = some u → w'.cell? ⟨b, o, none⟩ = some u) : Stp D w w' G G := by
 refine ⟨hW.os, hW.tape, hW.output, Nat.le_of_eq hW.size.symm, fun k _ hk => ⟨hW.block k (fun e => ?_), rfl, rfl⟩, ⟨?_, ?_⟩, fun b hb => (hI.new b hb).2, fun b hb => hI.new b (by rw [← hW.size]; exact hb), fun b p hp => .inl ⟨p, hp⟩, fun _ _ => rfl, fun _ _ => rfl, ⟨fun _ _ => rfl, fun _ _ => rfl⟩⟩
 ·subst e; exact hk l hl hD
 ·intro k o u hc' hk
  refine ⟨?_, hk⟩
  by_cases e : k = b
  ·subst e
   simp only [okc, hX] at hk
   exact hc o u hk hc'
  ·exact (Zbs (hW.block k e) o).trans hc'
 ·intro k es q hc' hk
  have hne : k ≠ b := by intro e; subst e; rw [hX] at hk; cases hk
  exact ⟨(hW.block k hne).trans hc', hk⟩
theorem Inv.storePart (hI : Inv E L a w G) {k m off : Nat} {cs new : List AV} {vs : List Value} (hb : L.b k = some (.part m cs)) (hrel : RelL G.X w new vs) (hfit : off + new.length ≤ cs.length) (hm : m ≤ off)
  (hone : ∀ v ∈ vs, v.oneCell' = true) : ∃ w', (storeCells ⟨G.bx k, off, none⟩ vs).run E.P w = .ok () w' ∧ SR E (L.upd (.b k (.part m (setAll cs off new)))) a w' := by
 obtain ⟨hX, hlab, us, e, hheap, hok⟩ := hI.bo k _ hb
 have hl := hrel.length
 have hl2 := hok.length
 have hl3 : us.size = cs.length := by rw [← hl2]; simp
 have hst := run_storeCells_at E.P (G.bx k) off e vs 0 us w hheap (by omega) hone
 have hset : (us.toList.take (off + 0) ++ vs ++ us.toList.drop (off + 0 + vs.length)) = setAll us.toList off vs := by
  rw [Z33 _ _ _ (by simp; omega)]; simp
 rw [hset] at hst
 have hheap' := setRow_heap w (G.bx k) us (setAll us.toList off vs).toArray e (0, 0) hheap
 refine ⟨_, hst, ?_⟩
 have i3 := hI.less (Sub.noB L k)
 have hS2 := (Wrote.setRow w (G.bx k) (setAll us.toList off vs).toArray).stpP (D := fun q => q = .box k) i3 (l := .box k) hlab rfl hX (fun o u ho hc => by
  replace ho : o < m := ho
  rw [Z4u hheap] at hc
  rw [Z4u hheap']
  have hust : us.toList.length = us.size := by simp
  simp only [List.getElem?_toArray]
  rw [Z33 _ _ _ (by simp; omega), List.append_assoc, List.getElem?_append_left (by rw [List.length_take]; omega), List.getElem?_take, if_pos (by omega)]
  simpa using hc)
 have i4 := i3.step' Av.box hS2
 have h5 := i4.setB (d := k) (x := .part m (setAll cs off new)) hX hlab ⟨(setAll us.toList off vs).toArray, e, hheap', by
  have := RelL.setAll off hrel hok
  simpa using RelL.mono hS2.ext _ _ this⟩
 rw [Zcf] at h5
 exact ⟨G, h5⟩
theorem Zxk (hI : Inv E L a w G) (hd : o.dst = none) {T : TypeId} {x y : Operand} (ho : o.op = .store T x y) (hop : Zqj E.P L T x y h = some (ups, obs)) (hob : ∀ p ∈ obs, p) : Does E L o a w ups := by
 intro Q
 unfold Zqj at hop
 split at hop
 ·rename_i s k off own av hs hx hy
  have hu : a.eval x = .pointer (some ⟨G.bx k, off, none⟩) := Z6s hI hx
  split at hop
  ·rename_i m cs hb
   split at hop
   ·rename_i hc
    cases hop
    simp only [Bool.and_eq_true, Nat.ble_eq] at hc
    obtain ⟨⟨h123, h4⟩, h5⟩ := hc
    obtain ⟨h1, h2, h3, hce⟩ := Zov h123 hob
    rw [hce]
    have h3' := Nat.eq_of_beq_eq_true h3
    have hr := Z2k hI hy
    have hcells := Z2t hr h1
    have hsz : (a.eval y).cells.size = s := by rw [← h3', ← hcells.length]; simp
    obtain ⟨w', hrun, hSR⟩ := hI.storePart hb hcells (by omega) h5 (Z9i hcells h2)
    unfold Oper.wp
    have : (execOp a.eval o).run E.P w = .ok .skip w' := by
     simp only [execOp, ho, hu, Sem.run_bind, Z9t hs hsz, hrun, Result.andThen_ok, Sem.run_pure]
    rw [this, Oper.upon_skip, hd]
    exact hSR
   ·cases hop
  ·cases hop
 ·cases hop
def Zqi (P : Program) (L : Look) (T : TypeId) (x y : Operand) (h : Hint) : Ans :=
 match ev L y with
 | some (.mp q, _) => match Z4x P T, ev L x with
  | some 1, some (.ptr k 0, _) => match L.b k with
   | some (.cells [_] _) => some ([.b k (.ref q)], [])
   | _ => none
  | _, _ => none
 | _ => match Zqj P L T x y h with
  | some r => some r
  | none => match h.md with | 5 => Zqk P L T x y h | _ => Zs2 P L T x y h
theorem Zzz (hI : Inv E L a w G) (hd : o.dst = some d) (hlt : d < E.n) {T : TypeId} {x : Operand} (ho : o.op = .load T x) (hop : Zvb E.P L d T x h = some (ups, obs)) (hob : ∀ p ∈ obs, p) : Does E L o a w ups := by
 unfold Zvb at hop
 split at hop
 ·rename_i k own hx
  split at hop
  ·rename_i q hb
   split at hop
   ·rename_i hag hs
    cases hop
    have hu : a.eval x = .pointer (some ⟨G.bx k, 0, none⟩) := Z6s hI hx
    obtain ⟨_, _, e, hheap⟩ := hI.bo k _ hb
    have hc2 : Z8c w (G.bx k) 0 [.map (some (G.bx q))] := by
     intro j u hj
     rw [Z4u hheap, Nat.zero_add]; simpa using hj
    obtain ⟨u, hrun, hu2⟩ := Z6w (P := E.P) hag hs rfl hc2 (.inr rfl)
    have hexec : (execOp a.eval o).run E.P w = .ok (.value u) w := by simp [execOp, ho, hu, Instr.loadAt, Instr.sureAddr, hrun]
    refine Zg hd hexec (hI.setSeen hlt (sv := .mp q) ?_ (fun j oe hj => by cases hj))
    simp at hu2
    exact hu2.symm
   ·cases hop
  ·exact Zz2 hI hd hlt ho hop hob
 ·exact Zz2 hI hd hlt ho hop hob
theorem Zxj (hI : Inv E L a w G) (hd : o.dst = none) {T : TypeId} {x y : Operand} (ho : o.op = .store T x y) (hop : Zqi E.P L T x y h = some (ups, obs)) (hob : ∀ p ∈ obs, p) : Does E L o a w ups := by
 unfold Zqi at hop
 split at hop
 ·rename_i q own hy
  split at hop
  ·rename_i k own' hs hx
   split at hop
   ·rename_i c own0 hb
    cases hop
    intro Q
    have hu : a.eval x = .pointer (some ⟨G.bx k, 0, none⟩) := Z6s hI hx
    have hv : a.eval y = .map (some (G.bx q)) := Z6s hI hy
    obtain ⟨hX, hlab, us, e, hheap, hok⟩ := hI.bo k _ hb
    have hlen : us.size = 1 := by have := hok.rel.length; simpa using this
    have hst := run_storeCells_at E.P (G.bx k) 0 e [.map (some (G.bx q))] 0 us w hheap (by simp [hlen]) (by intro v hv; simp at hv; subst hv; rfl)
    have hset : (us.toList.take (0 + 0) ++ [Value.map (some (G.bx q))] ++ us.toList.drop (0 + 0 + [Value.map (some (G.bx q))].length)).toArray = #[.map (some (G.bx q))] := by
     have : us.toList.drop 1 = [] := List.drop_eq_nil_of_le (by simp [hlen])
     simp [this]
    rw [hset] at hst
    have i3 := hI.less (Sub.noB L k)
    have hS2 := (Wrote.setRow w (G.bx k) #[.map (some (G.bx q))]).stp (D := fun q => q = .box k) i3 (l := .box k) hlab rfl hX
    have i4 := i3.step' Av.box hS2
    have h5 := i4.setB (d := k) (x := .ref q) hX hlab ⟨e, setRow_heap w (G.bx k) us _ e (0, 0) hheap⟩
    rw [Zcf] at h5
    unfold Oper.wp
    have : (execOp a.eval o).run E.P w = .ok .skip (w.setRow (G.bx k) #[.map (some (G.bx q))]) := by
     simp only [execOp, ho, hu, hv, Sem.run_bind, Z9t (v := .map (some (G.bx q))) hs rfl]
     rw [show (Value.map (some (G.bx q))).cells.toList = [.map (some (G.bx q))] from rfl, hst]
     simp only [Result.andThen_ok, Sem.run_pure]
    rw [this, Oper.upon_skip, hd]
    exact ⟨G, h5⟩
   ·cases hop
  ·cases hop
 ·split at hop
  ·rename_i r hr; cases hop; exact Zxk hI hd ho hr hob
  ·split at hop
   ·exact Zxl hI hd ho hop hob
   ·exact Zun hI hd ho hop hob
def eqC (P : Program) (T : TypeId) (a b : AV) : Option Bool :=
 match Zdi P T, Z4x P T, P.underlying T with
 | some false, some 1, some (.int _) => match a, b with
  | .int k m, .int k' m' => match decide (k = k') with | true => some (m == m') | false => none
  | _, _ => none
 | some false, some 1, some .string => match a, b with
  | .str x, .str y => some (x.toList == y.toList)
  | _, _ => none
 | some false, some 1, some .bool => match a, b with
  | .bool x, .bool y => some (x == y)
  | _, _ => none
 | _, _, _ => none
def eqFs (P : Program) : List Field → Nat → List AV → List AV → Option Bool
 | [], _, [], [] => some true
 | f :: fs, i, a :: cs, b :: ds => match f.name == "_", Nat.beq f.offset i, eqC P f.type a b, eqFs P fs (i + 1) cs ds with
  | false, true, some q, some r => some (q && r)
  | _, _, _, _ => none
 | _, _, _, _ => none
def Z10h (P : Program) (L : Look) (d : Nat) (op : BinOp) (T : TypeId) (x y : Operand) (h : Hint) : Ans :=
 match evV L x, evV L y with
 | some (.agg cs), some (.agg ds) => match P.underlying T, P.stoodInHeld T, P.eqGuardType P.depth T with
  | some (.struct fs), false, false => match eqFs P fs.toList 0 cs ds with
   | some r => match op with
    | .eql => one d (.bool r) h []
    | .neq => one d (.bool (!r)) h []
    | _ => none
   | none => none
  | _, _, _ => none
 | _, _ => none
theorem Z106 {T : TypeId} {x y : AV} {r : Bool} (h : eqC P T x y = some r) {X : Gh} {u v : Value} (hu : Rel X w x u) (hv : Rel X w y v) (e : Nat) :
  Zdi P T = some false ∧ Z4x P T = some 1 ∧ (Op.equalIn (e + 1) T u v).run P w = .ok r w := by
 unfold eqC at h
 split at h
 ·rename_i ha hs hT
  split at h
  ·split at h
   ·rename_i hk
    have hk := of_decide_eq_true hk
    subst hk
    cases h; cases hu; cases hv
    exact ⟨ha, hs, run_equalIn_int w e T _ _ _ _ hT⟩
   ·cases h
  ·cases h
 ·rename_i ha hs hT
  split at h
  ·cases h; cases hu; cases hv
   exact ⟨ha, hs, run_equalIn_string w e T _ _ hT⟩
  ·cases h
 ·rename_i ha hs hT
  split at h
  ·cases h; cases hu; cases hv
   exact ⟨ha, hs, run_equalIn_bool' w e T _ _ hT⟩
  ·cases h
 ·cases h
theorem Zrs {X : Gh} {us vs : List Value} (e : Nat) : ∀ (fs : List Field) (i : Nat) (cs ds : List AV) (r : Bool), eqFs P fs i cs ds = some r → RelL X w cs (us.drop i) → RelL X w ds (vs.drop i) →
  (Op.eqFields (e + 1) us.toArray vs.toArray fs).run P w = .ok r w
 | [], i, cs, ds, r, h, hu, hv => by
  cases cs <;> cases ds <;> cases h
  rfl
 | f :: fs, i, cs, ds, r, h, hu, hv => by
  cases cs with
  | nil => cases h
  | cons a cs =>
   cases ds with
   | nil => cases h
   | cons b ds =>
    unfold eqFs at h
    split at h
    ·rename_i q s hn ho hq hs
     cases h
     obtain ⟨u, us', e1, hu1, hu2⟩ := hu
     obtain ⟨v, vs', e2, hv1, hv2⟩ := hv
     obtain ⟨ha, hsz, hrun⟩ := Z106 hq hu1 hv1 e
     have ho := Nat.eq_of_beq_eq_true ho
     have l1 : i + 1 ≤ us.length := by have := congrArg List.length e1; simp at this; omega
     have l2 : i + 1 ≤ vs.length := by have := congrArg List.length e2; simp at this; omega
     obtain ⟨u', p1, p2⟩ := Zml (w := w) ha hsz l1 (.inr rfl)
     obtain ⟨v', p3, p4⟩ := Zml (w := w) ha hsz l2 (.inr rfl)
     rw [if_neg (by simp), e1] at p2
     rw [if_neg (by simp), e2] at p4
     have q1 : u = u' := by simpa using p2
     have q2 : v = v' := by simpa using p4
     subst q1; subst q2
     have n1 : us.drop (i + 1) = us' := by rw [← List.drop_drop, e1]; rfl
     have n2 : vs.drop (i + 1) = vs' := by rw [← List.drop_drop, e2]; rfl
     have ih := Zrs (X := X) (us := us) (vs := vs) e fs (i + 1) cs ds s hs (by rw [n1]; exact hu2) (by rw [n2]; exact hv2)
     have hne : f.name ≠ "_" := by intro he; rw [he] at hn; simp at hn
     unfold Op.eqFields
     rw [if_pos hne, ho]
     simp only [Sem.run_bind, p1, p3, hrun, Result.andThen_ok, Sem.run_ite]
     cases q with
     | false => rfl
     | true => simpa using ih
    ·cases h
theorem Z11y (hI : Inv E L a w G) (hd : o.dst = some d) (hlt : d < E.n) {op : BinOp} {T T' : TypeId} {x y : Operand} (ho : o.op = .binOp op T x y T') (hop : Z10h E.P L d op T x y h = some (ups, obs)) (hob : ∀ p ∈ obs, p) : Does E L o a w ups := by
 unfold Z10h at hop
 split at hop
 ·rename_i cs ds hx hy
  split at hop
  ·rename_i fs hT h1 h2
   split at hop
   ·rename_i r hr
    obtain ⟨us, hu, hrc⟩ := Z2k hI hx
    obtain ⟨vs, hv, hrd⟩ := Z2k hI hy
    have hfs : E.P.fieldsOf T = fs := by simp [Program.fieldsOf, hT]
    have hrun := Zrs (P := E.P) (w := w) (us := us) (vs := vs) 9998 fs.toList 0 cs ds r hr hrc hrd
    have he : (Op.equalIn 10000 T (.agg us.toArray) (.agg vs.toArray)).run E.P w = .ok r w := by
     rw [run_equalIn_struct w 9999 T _ _ (by rw [hfs, hT]) h1, hfs]
     exact hrun
    split at hop
    ·refine Zg hd (v := .bool r) (w' := w) ?_ (Z5j hI hlt hop hob rfl)
     simp [execOp, ho, hu, hv, run_eqGuard_agg w _ T x y _ _ h2, run_eql_struct, he, Result.andThen]
    ·refine Zg hd (v := .bool (!r)) (w' := w) ?_ (Z5j hI hlt hop hob rfl)
     simp [execOp, ho, hu, hv, run_eqGuard_agg w _ T x y _ _ h2, run_neq_struct, he, Result.andThen]
    ·cases hop
   ·cases hop
  ·cases hop
 ·cases hop
def band (k : IntKind) (a b : Int) : Int := k.wrap ((BitVec.ofInt k.bits a &&& BitVec.ofInt k.bits b).toNat)
def bor (k : IntKind) (a b : Int) : Int := k.wrap ((BitVec.ofInt k.bits a ||| BitVec.ofInt k.bits b).toNat)
def bxor (k : IntKind) (a b : Int) : Int := k.wrap ((BitVec.ofInt k.bits a ^^^ BitVec.ofInt k.bits b).toNat)
def bshr (k : IntKind) (a b : Int) : Int := a.fdiv (2 ^ min b.toNat k.bits)
def bshl (k : IntKind) (a b : Int) : Int := k.wrap (a * 2 ^ min b.toNat k.bits)
def Z10j (L : Look) (d : Nat) (op : BinOp) (x y : Operand) (h : Hint) : Ans :=
 match evV L x, evV L y with
 | some (.int k a), some (.int k' b) => match op with
  | .and => if k = k' then one d (.int k (band k a b)) h [] else none
  | .or => if k = k' then one d (.int k (bor k a b)) h [] else none
  | .xor => if k = k' then one d (.int k (bxor k a b)) h [] else none
  | .shr => one d (.int k (bshr k a b)) h [0 ≤ b]
  | .shl => one d (.int k (bshl k a b)) h [0 ≤ b]
  | _ => none
 | _, _ => none
theorem Z120 (hI : Inv E L a w G) (hd : o.dst = some d) (hlt : d < E.n) {op : BinOp} {T T' : TypeId} {x y : Operand} (ho : o.op = .binOp op T x y T') (hop : Z10j L d op x y h = some (ups, obs)) (hob : ∀ p ∈ obs, p) : Does E L o a w ups := by
 unfold Z10j at hop
 split at hop
 ·rename_i k m k' m' hx hy
  have hu : a.eval x = .int k m := Z2k hI hx
  have hv : a.eval y = .int k' m' := Z2k hI hy
  split at hop
  ·split at hop
   ·rename_i hk
    subst hk
    refine Zg hd (v := .int k (band k m m')) (w' := w) ?_ (Z5j hI hlt hop hob rfl)
    simp [execOp, ho, hu, hv, Z4k, binOp, Op.intBits, band]
   ·cases hop
  ·split at hop
   ·rename_i hk
    subst hk
    refine Zg hd (v := .int k (bor k m m')) (w' := w) ?_ (Z5j hI hlt hop hob rfl)
    simp [execOp, ho, hu, hv, Z4k, binOp, Op.intBits, bor]
   ·cases hop
  ·split at hop
   ·rename_i hk
    subst hk
    refine Zg hd (v := .int k (bxor k m m')) (w' := w) ?_ (Z5j hI hlt hop hob rfl)
    simp [execOp, ho, hu, hv, Z4k, binOp, Op.intBits, bxor]
   ·cases hop
  ·have hb : 0 ≤ m' := Zce hop hob _ (by simp)
   have hb' : ¬ m' < 0 := by omega
   refine Zg hd (v := .int k (bshr k m m')) (w' := w) ?_ (Z5j hI hlt hop hob rfl)
   simp [execOp, ho, hu, hv, Z4k, binOp, Op.shift, bshr, hb']
  ·have hb : 0 ≤ m' := Zce hop hob _ (by simp)
   have hb' : ¬ m' < 0 := by omega
   refine Zg hd (v := .int k (bshl k m m')) (w' := w) ?_ (Z5j hI hlt hop hob rfl)
   simp [execOp, ho, hu, hv, Z4k, binOp, Op.shift, bshl, hb']
  ·cases hop
 ·cases hop
def Zsc : Operand → Option Bool
 | .const (.pointer none) => some true
 | .const (.slice none 0 0) => some false
 | _ => none
theorem Zqs {x : Operand} {b : Bool} (h : Zsc x = some b) : x = .const (nilV b) := by
 unfold Zsc at h
 split at h <;> first | (cases h; rfl) | cases h
def Znt (b : Bool) (a : AV) (r : Bool) : Prop := match a with | .nil c => c = b ∧ r = true | .vptr _ => b = true ∧ r = false | .sl (_ :: _) => b = false ∧ r = false | _ => False
def Zvz (P : Program) (T : TypeId) (b : Bool) : Bool := match P.underlying T with | some (.pointer _) => b | some (.slice _) => !b | _ => false
def Z10i (P : Program) (L : Look) (d : Nat) (op : BinOp) (T : TypeId) (x y : Operand) (h : Hint) : Ans :=
 match evV L x, Zsc y, h.v with
 | some a, some b, some (.bool r) => match Zvz P T b, op with
  | true, .eql => some ([.t d (.v (.bool r), [])], [Znt b a r])
  | true, .neq => some ([.t d (.v (.bool r), [])], [Znt b a (!r)])
  | _, _ => none
 | _, _, _ => none
theorem Z12o {T : TypeId} {b r : Bool} {a : AV} {X : Gh} {u : Value} (hf : Zvz P T b = true) (hn : Znt b a r) (hr : Rel X w a u) : (Op.equal T u (nilV b)).run P w = .ok r w := by
 unfold Zvz at hf
 have ptr0 : ∀ {e : TypeId} {p : Option Addr} (n : Nat), P.underlying T = some (.pointer e) → (Op.equalIn (n + 1) T (.pointer p) (.pointer none)).run P w = .ok p.isNone w := fun {e p} n h => by
  cases p <;> simp [Op.equalIn, run_underlying h]
 have sl0 : ∀ {e : TypeId} {p : Option Addr} {l c : Nat} (n : Nat), P.underlying T = some (.slice e) → (Op.equalIn (n + 1) T (.slice p l c) (.slice none 0 0)).run P w = .ok p.isNone w := fun {e p l c} n h => by
  cases p <;> simp [Op.equalIn, run_underlying h]
 have ptr : ∀ {e : TypeId} {p : Option Addr}, P.underlying T = some (.pointer e) → (Op.equal T (.pointer p) (.pointer none)).run P w = .ok p.isNone w := fun h => ptr0 9999 h
 have sl : ∀ {e : TypeId} {p : Option Addr} {l c : Nat}, P.underlying T = some (.slice e) → (Op.equal T (.slice p l c) (.slice none 0 0)).run P w = .ok p.isNone w := fun h => sl0 9999 h
 split at hf
 ·rename_i e hT
  subst hf
  unfold Znt at hn
  split at hn
  ·obtain ⟨rfl, rfl⟩ := hn
   rw [show u = _ from hr]
   exact ptr hT
  ·obtain ⟨_, rfl⟩ := hn
   obtain ⟨q, f, rfl, _⟩ := hr
   exact ptr hT
  ·cases hn.1
  ·exact hn.elim
 ·rename_i e hT
  have hb : b = false := by simpa using hf
  subst hb
  unfold Znt at hn
  split at hn
  ·obtain ⟨rfl, rfl⟩ := hn
   rw [show u = _ from hr]
   exact sl hT
  ·cases hn.1
  ·obtain ⟨_, rfl⟩ := hn
   obtain ⟨A, len, cap, rfl, _, _, hor⟩ := hr
   rcases hor with h0 | ⟨q, f, z, rfl, _⟩
   ·cases h0
   ·exact sl hT
  ·exact hn.elim
 ·cases hf
theorem Zfi {b : Bool} {T : TypeId} {u : Value} (op : BinOp) (x y : Operand) : (eqGuard op T x y u (nilV b)).run P w = .ok () w := by
 unfold eqGuard
 cases b <;> cases op <;> cases u <;> simp [nilV]
theorem Zqb {b r : Bool} {T : TypeId} {u : Value} (h : (Op.equal T u (nilV b)).run P w = .ok r w) : (binOp .eql T u (nilV b)).run P w = .ok (.bool r) w := by
 have e : binOp .eql T u (nilV b) = Value.bool <$> Op.equal T u (nilV b) := by cases b <;> cases u <;> rfl
 rw [e]; simp [h]
theorem Zqa {b r : Bool} {T : TypeId} {u : Value} (h : (Op.equal T u (nilV b)).run P w = .ok (!r) w) : (binOp .neq T u (nilV b)).run P w = .ok (.bool r) w := by
 have e : binOp .neq T u (nilV b) = (fun a => Value.bool !a) <$> Op.equal T u (nilV b) := by cases b <;> cases u <;> rfl
 rw [e]; simp [h]
theorem Z11z (hI : Inv E L a w G) (hd : o.dst = some d) (hlt : d < E.n) {op : BinOp} {T T' : TypeId} {x y : Operand} (ho : o.op = .binOp op T x y T') (hop : Z10i E.P L d op T x y h = some (ups, obs)) (hob : ∀ p ∈ obs, p) : Does E L o a w ups := by
 unfold Z10i at hop
 split at hop
 ·rename_i v b r hx hy hv
  have hu := Z2k hI hx
  rw [Zqs hy] at ho
  have hye : a.eval (.const (nilV b)) = nilV b := rfl
  split at hop
  ·rename_i hf
   cases hop
   refine Zg hd (v := .bool r) (w' := w) ?_ (hI.set0 hlt (sv := .v (.bool r)) rfl)
   have he := Z12o (P := E.P) hf (hob _ (List.mem_singleton.2 rfl)) hu
   have hg := Zfi (P := E.P) (w := w) (b := b) (T := T) (u := a.eval x) .eql x (.const (nilV b))
   simp [execOp, ho, hye, hg, Zqb he]
  ·rename_i hf
   cases hop
   refine Zg hd (v := .bool r) (w' := w) ?_ (hI.set0 hlt (sv := .v (.bool r)) rfl)
   have he := Z12o (P := E.P) hf (hob _ (List.mem_singleton.2 rfl)) hu
   have hg := Zfi (P := E.P) (w := w) (b := b) (T := T) (u := a.eval x) .neq x (.const (nilV b))
   simp [execOp, ho, hye, hg, Zqa he]
  ·cases hop
 ·cases hop
end Go.Bv

namespace Go.Bv
open Go.RowKit
variable {E : Env} {P : Program} {n : Nat} {L L1 L2 : Look} {a : Act} {w w' : World} {G : Gho} {o : Oper} {d : Nat} {h : Hint} {ups : List Upd} {obs : List Prop} {Q : Exit → Act → World → Prop}
def Z116 (L : Look) (x : Operand) (h : Hint) : Option (List (List AV) × List Prop) :=
 match Zd3 L x with
 | some (.plain xs) => some (xs, [])
 | some (.held p π) => match Zg5 L p π h with | some (_, xs, ob) => some (xs, ob) | none => none
 | _ => none
theorem Ztm (hI : Inv E L a w G) {x : Operand} {xs : List (List AV)} {ob : List Prop} (hc : Z116 L x h = some (xs, ob)) (hob : ∀ p ∈ ob, p) : ∃ X, Rel X w (.sl xs) (a.eval x) := by
 unfold Z116 at hc
 split at hc
 ·rename_i ys hs
  cases hc
  cases Z2n hI hs with
  | plain hr => exact ⟨_, hr⟩
 ·rename_i p π hs
  split at hc
  ·rename_i dp ys ob' hc'
   cases hc
   cases Z2n hI hs with
   | held hat _ => exact ⟨_, (Z8y hI hc' hob hat).rel⟩
  ·cases hc
 ·cases hc
def Zjj (P : Program) (L : Look) (d : Nat) (src dst : TypeId) (x : Operand) (h : Hint) : Ans :=
 match Zhk P dst, (Zl2 P src).bind (fun e => Zsd P e), Z116 L x h, h.v with
 | true, some .u8, some (xs, ob), some (.str s) => some ([.t d (.v (.str s), [])], ob ++ [∃ ns : List Int, xs = ns.map (fun n => [.int .u8 n]) ∧ s = strOfNums ns])
 | _, _, _, _ => none
theorem Zt4 (hI : Inv E L a w G) (hd : o.dst = some d) (hlt : d < E.n) {S T : TypeId} {x : Operand} (ho : o.op = .convert S T x) (hop : Zjj E.P L d S T x h = some (ups, obs)) (hob : ∀ p ∈ obs, p) : Does E L o a w ups := by
 unfold Zjj at hop
 split at hop
 ·rename_i xs ob s hT hS hc hv
  cases hop
  obtain ⟨X, hr⟩ := Ztm hI hc (fun p hp => hob p (by simp [hp]))
  obtain ⟨ns, rfl, rfl⟩ : ∃ ns : List Int, xs = ns.map (fun n => [.int .u8 n]) ∧ s = strOfNums ns := hob _ (by simp)
  simp only [Option.bind_eq_some_iff] at hS
  obtain ⟨e, he, hk⟩ := hS
  have hTu : E.P.underlying T = some .string := by
   unfold Zhk at hT
   split at hT
   ·assumption
   ·cases hT
  have hSu : E.P.underlying S = some (.slice e) := by
   unfold Zl2 at he
   split at he
   ·rename_i h1; cases he; exact h1
   ·cases he
  have hEu : E.P.underlying e = some (.int .u8) := by
   unfold Zsd at hk
   split at hk
   ·rename_i h1; cases hk; exact h1
   ·cases hk
  obtain ⟨A, len, cap, hu, hl, hcap, hor⟩ := hr
  simp only [List.length_map] at hl
  refine Zg hd (v := .string (strOfNums ns)) (w' := w) ?_ (hI.set0 hlt (sv := .v (.str (strOfNums ns))) rfl)
  rcases hor with h0 | ⟨b, off, sz, rfl, hE⟩
  ·have hn : ns = [] := by simpa using h0
   subst hn
   subst hl
   cases A with
   | none =>
    simp [execOp, ho, hu, run_convert_bytes_nil w S e hSu hEu _ _ T hTu, strOfNums]
    rfl
   | some A0 =>
    have hconv : (convert S T (.slice (some A0) 0 cap)).run E.P w = .ok (.string (strOfNums [])) w := by
     rw [run_convert_bytes_string w S T e _ _ _ hSu hEu hTu, run_bytesToString w A0 0 cap [] (by simp [loadCells, loadCellsFrom])]
     rfl
    have hz : ([] : List Int).length = 0 := rfl
    simp only [List.length_nil] at hu
    simp [execOp, ho, hu, hconv]
  ·have hconv := run_convert_bytes_arg (P := E.P) w S e hSu hEu b off len cap ns hl.symm (fun i hi => by
    have hlt : i < ns.length := by omega
    have hg : (ns.map (fun n => [AV.int .u8 n]))[i]? = some [.int .u8 ns[i]] := by simp [hlt]
    obtain ⟨h1, ⟨u, hc1, _, hc2⟩, _⟩ := hE.get i hg
    have hsz : sz = 1 := by simpa using h1.symm
    subst hsz
    rw [Nat.mul_one] at hc1
    rw [hc1, show u = _ from hc2]
    simp [List.getD, hlt]) T hTu
   simp [execOp, ho, hu, hconv]
 ·cases hop
def Z126 (P : Program) (L : Look) (d : Nat) (src dst : TypeId) (x : Operand) (h : Hint) : Ans :=
 match Zmv P L d src dst x h with
 | some r => some r
 | none => Zjj P L d src dst x h
def Z127 (P : Program) (L : Look) (d : Nat) (op : BinOp) (T : TypeId) (x y : Operand) (h : Hint) : Ans :=
 match Zsc y with
 | some _ => Z10i P L d op T x y h
 | none => match oBin P L d op T x y h with
  | some r => some r
  | none => match Z10h P L d op T x y h with
   | some r => some r
   | none => Z10j L d op x y h
def Z13a (L : Look) (d : Nat) (c x y : Operand) : Ans :=
 match evV L c with | some (.bool true) => Zt9 L d x | some (.bool false) => Zt9 L d y | _ => none
def aOp (P : Program) (L : Look) (o : Oper) (d : Nat) (h : Hint) : Ans :=
 match o.op with
 | .move x => Zy0 P L d o.type x h
 | .assign x => Zy0 P L d o.type x h
 | .pick c x y => Z13a L d c x y
 | .alloc T => Zvf P d T
 | .box _ x => match h.md with | 3 => Z10g L d x | _ => oBox L d x h
 | .build T ps => Zve P L d T ps.toList h
 | .buildSlice T k ps => Zeq P L d T k ps.toList h
 | .load T x => Zvb P L d T x h
 | .fieldAddr S x f => Zgt P L d S x f
 | .field S x f => Zvd P L d S x f
 | .indexAddr T x i => Zgs P L d T x i h
 | .index T x i => Zvc P L d T x i h
 | .binOp op T x y _ => Z127 P L d op T x y h
 | .unOp op _ x => oUn L d op x h
 | .convert S T x => Z126 P L d S T x h
 | .extract x i => Zmu L d x i h
 | .nilCheck x => oNil L d x h
 | .slice T x lo hi none => Zva P L d T x lo hi h
 | .makeFunc fn f c => Zji L d fn f.toList c.toList
 | .call c => match c.callee with
  | .value g => Z10f P L d g c.args.toList h
  | .builtin .append => Zql P L d c.args.toList c.argTypes.toList h
  | .builtin b => Zmw P L d b c.args.toList c.argTypes.toList h
  | _ => none
 | _ => none
theorem Zx7 (hI : Inv E L a w G) (hd : o.dst = some d) (hlt : d < E.n) (hop : aOp E.P L o d h = some (ups, obs)) (hob : ∀ p ∈ obs, p) : Does E L o a w ups := by
 unfold aOp at hop
 split at hop
 ·rename_i x ho; exact Zz1 hI hd hlt (.inl ho) hop
 ·rename_i x ho; exact Zz1 hI hd hlt (.inr ho) hop
 ·rename_i c x y ho; exact Z11v hI hd hlt ho hop
 ·rename_i T ho; exact Z104 hI hd hlt ho hop
 ·rename_i T x ho
  split at hop
  ·exact Z11x hI hd hlt ho hop
  ·exact Z138 hI hd hlt ho hop
 ·rename_i T ps ho; exact Z102 hI hd hlt ho hop hob
 ·rename_i T k ps ho; exact Zo1 hI hd hlt ho hop hob
 ·rename_i T x ho; exact Zzz hI hd hlt ho hop hob
 ·rename_i S x f ho; exact Zq7 hI hd hlt ho hop
 ·rename_i S x f ho; exact Z101 hI hd hlt ho hop
 ·rename_i T x i ho; exact Zq6 hI hd hlt ho hop hob
 ·rename_i T x i ho; exact Z100 hI hd hlt ho hop hob
 ·rename_i op T x y T' ho
  unfold Z127 at hop
  split at hop
  ·exact Z11z hI hd hlt ho hop hob
  ·split at hop
   ·rename_i r hr; cases hop; exact Z103 hI hd hlt ho hr hob
   ·split at hop
    ·rename_i r hr; cases hop; exact Z11y hI hd hlt ho hr hob
    ·exact Z120 hI hd hlt ho hop hob
 ·rename_i op T x ho; exact Z11u hI hd hlt ho hop hob
 ·rename_i S T x ho
  unfold Z126 at hop
  split at hop
  ·rename_i r hr
   cases hop
   exact Zup hI hd hlt ho hr hob
  ·exact Zt4 hI hd hlt ho hop hob
 ·rename_i x i ho; exact Zuo hI hd hlt ho hop
 ·rename_i x ho; exact Zt2 hI hd hlt ho hop hob
 ·rename_i T x lo hi ho; exact Zzy hI hd hlt ho hop hob
 ·rename_i fn f c ho; exact Zt3 hI hd hlt ho hop
 ·rename_i c ho
  split at hop
  ·rename_i g hg; exact Z11w hI hd hlt ho hg hop hob
  ·rename_i hg; exact Zxm hI hd hlt ho hg hop hob
  ·rename_i b _ hg; exact Zuq hI hd hlt ho hg hop hob
  ·cases hop
 ·cases hop
structure St where
 t : List (Nat × (SV × OwnL))
 b : List (Nat × BX)
 g : List (Nat × OwnL)
def lk {α : Type} : List (Nat × α) → Nat → Option α
 | [], _ => none
 | (k, v) :: l, x => match Nat.beq k x with | true => some v | false => lk l x
def rmk {α : Type} (x : Nat) : List (Nat × α) → List (Nat × α)
 | [] => []
 | (k, v) :: l => match Nat.beq k x with | true => rmk x l | false => (k, v) :: rmk x l
theorem Zon {α : Type} (x : Nat) : ∀ (l : List (Nat × α)) (k : Nat), lk (rmk x l) k = if k = x then none else lk l k
 | [], k => by simp [rmk, lk]
 | (j, v) :: l, k => by
  simp only [rmk]
  cases hj : Nat.beq j x with
  | true =>
   have := Z3o hj
   simp only []
   rw [Zon x l k]
   by_cases e : k = x
   ·simp [e]
   ·simp only [e, if_false]
    simp only [lk]
    cases hk : Nat.beq j k with
    | true => have := Z3o hk; omega
    | false => rfl
  | false =>
   have hne := Z57 hj
   simp only [lk]
   cases hk : Nat.beq j k with
   | true => have := Z3o hk; subst this; simp [hne]
   | false => simp only []; exact Zon x l k
def St.look (s : St) : Look := { t := lk s.t, b := lk s.b, g := lk s.g }
def Zeu {α : Type} (p : α → Bool) : List (Nat × α) → List (Nat × α)
 | [] => []
 | (k, e) :: l => match p e with | true => rmk k (Zeu p l) | false => (k, e) :: Zeu p l
theorem Zjp {α : Type} (p : α → Bool) : ∀ (l : List (Nat × α)) (x : Nat), lk (Zeu p l) x = (lk l x).bind fun e => match p e with | true => none | false => some e
 | [], x => rfl
 | (k, e) :: l, x => by
  simp only [Zeu, lk]
  cases he : p e with
  | true =>
   simp only []
   rw [Zon, Zjp p l x]
   cases hk : Nat.beq k x with
   | true => have := Z3o hk; subst this; simp [he]
   | false => have := Z57 hk; rw [if_neg (fun e => this e.symm)]
  | false =>
   simp only [lk]
   cases hk : Nat.beq k x with
   | true => simp [he]
   | false => exact Zjp p l x
def St.upd (s : St) : Upd → St
 | .f r => { t := Zeu (Zfl r) s.t, b := Zeu (Zi1 r) s.b, g := Zeu (Z4l r) s.g }
 | .t k e => { s with t := (k, e) :: rmk k s.t }
 | .b k e => { s with b := (k, e) :: rmk k s.b }
 | .g k e => { s with g := (k, e) :: rmk k s.g }
def St.upds (s : St) : List Upd → St
 | [] => s
 | u :: us => (s.upd u).upds us
theorem Z10l {α : Type} (k : Nat) (v : α) (l : List (Nat × α)) : lk ((k, v) :: rmk k l) = fun x => if x = k then some v else lk l x := by
 funext x
 simp only [lk]
 cases hk : Nat.beq k x with
 | true => have := Z3o hk; simp [this]
 | false => have := Z57 hk; show lk (rmk k l) x = _; rw [Zon, if_neg (fun e => this (Eq.symm e)), if_neg (fun e => this (Eq.symm e))]
theorem St.look_upd (s : St) (u : Upd) : (s.upd u).look = s.look.upd u := by
 cases u with
 | f r =>
  simp only [St.upd, St.look, Look.upd]
  congr 1 <;> (funext x; rw [Zjp]; congr 1)
 | _ => simp [St.upd, St.look, Look.upd, Z10l]
theorem St.look_upds : ∀ (us : List Upd) (s : St), (s.upds us).look = s.look.upds us
 | [], s => rfl
 | u :: us, s => by
  simp only [St.upds, Look.upds, List.foldl_cons]
  rw [St.look_upds us, St.look_upd]; rfl
end Go.Bv

namespace Go.Bv
open Go.RowKit
variable {E : Env} {P : Program} {n : Nat} {L L1 L2 : Look} {a : Act} {w w' : World} {G : Gho} {o : Oper} {d : Nat} {h : Hint} {ups : List Upd} {obs : List Prop} {Q : Exit → Act → World → Prop}
def AV.setc (v : AV) (j : Nat) (x : AV) : Option AV :=
 match v with
 | .agg cs => match cs[j]? with | some _ => some (.agg (cs.set j x)) | none => none
 | .slx => match j with | 0 => some x | _ => none
 | .sl _ => match j with | 0 => some x | _ => none
 | _ => none
def putV (L : Look) (p : OP) (x : AV) (own' : OwnL → OwnL) : Option (List Upd) :=
 match p with
 | .t s j => match L.t s with
  | some (.v v, own) => match v.setc j x with | some v' => some [.t s (.v v', own' own)] | none => none
  | _ => none
 | .b d j => match L.b d with
  | some (.cells cs own) => match cs[j]? with | some _ => some [.b d (.cells (cs.set j x) (own' own))] | none => none
  | _ => none
 | .a _ _ => none
def AV.getc (v : AV) (j : Nat) : Option AV :=
 match v with
 | .agg cs => cs[j]?
 | .sl xs => match j with | 0 => some (.sl xs) | _ => none
 | _ => none
def Zzt (L : Look) : OP → Option AV
 | .t s j => match L.t s with
  | some (.v v, _) => v.getc j
  | _ => none
 | .b d j => match L.b d with | some (.cells cs _) => cs[j]? | _ => none
 | .a _ _ => none
theorem Zy5 {X : Gh} {v x : AV} {j : Nat} {u c : Value} (h : v.getc j = some x) (hr : Rel X w v u) (hc : (Value.flat u)[j]? = some c) : Rel X w x c := by
 unfold AV.getc at h
 split at h
 ·rename_i cs
  obtain ⟨us, rfl, h4⟩ := hr
  obtain ⟨c', hc', hr'⟩ := h4.get j h
  have : us[j]? = some c := by simpa [Value.flat, Value.cells] using hc
  rw [hc'] at this; cases this; exact hr'
 ·split at h
  ·cases h
   obtain ⟨A, l, k, rfl, e2⟩ := hr
   have hc' : (#[Value.slice A l k].toList)[0]? = some c := hc
   simp at hc'
   subst hc'
   exact ⟨A, l, k, rfl, e2⟩
  ·cases h
 ·cases h
def insS (j : Nat) (x : OE) : OwnL → OwnL
 | [] => [(j, x)]
 | (k, y) :: l => match Nat.ble j k with | true => (j, x) :: (k, y) :: l | false => (k, y) :: insS j x l
def Zuk : OwnL → OwnL
 | [] => []
 | (j, x) :: l => insS j x (Zuk l)
theorem Zs8 {j k : Nat} {x y : OE} : ∀ {l : OwnL}, (k, y) ∈ insS j x l → (k, y) = (j, x) ∨ (k, y) ∈ l
 | [], h => by simpa [insS] using h
 | (i, z) :: l, h => by
  simp only [insS] at h
  split at h
  ·rcases List.mem_cons.1 h with h | h
   ·exact .inl h
   ·exact .inr h
  ·rcases List.mem_cons.1 h with h | h
   ·exact .inr (by rw [h]; exact List.mem_cons_self)
   ·rcases Zs8 h with h | h
    ·exact .inl h
    ·exact .inr (List.mem_cons_of_mem _ h)
theorem Zof {k : Nat} {y : OE} : ∀ {l : OwnL}, (k, y) ∈ Zuk l → (k, y) ∈ l
 | [], h => h
 | (j, x) :: l, h => by
  simp only [Zuk] at h
  rcases Zs8 h with h | h
  ·rw [h]; exact List.mem_cons_self
  ·exact List.mem_cons_of_mem _ (Zof h)
def unL (L : Look) (p : OP) : Option (List Upd) :=
 match p with
 | .t s j => match L.t s with | some (sv, own) => some [.t s (sv, rmO own j)] | none => none
 | .b d j => match L.b d with | some (.cells cs own) => some [.b d (.cells cs (rmO own j))] | _ => none
 | .a i j => match L.g i with | some own => some [.g i (rmO own j)] | none => none
def fixL (L : Look) : Fix → Option (List Upd)
 | .un p => match p with
  | .t s j => match L.t s with | some (sv, own) => some [.t s (sv, rmO own j)] | none => none
  | .b d j => match L.b d with | some (.cells cs own) => some [.b d (.cells cs (rmO own j))] | _ => none
  | .a i j => match L.g i with | some own => some [.g i (rmO own j)] | none => none
 | .sh p => match Z6c L p with
  | some (.ex _ _ xs) => match putV (L.upd (.f (Z6l p))) p (.sl xs) (fun own => rmO own (match p with | .t _ j => j | .b _ j => j | .a _ j => j)) with
   | some us => some (.f (Z6l p) :: us)
   | none => none
  | _ => none
 | .ow p dp => match Z6c L p, Zzt L p with
  | some (.app e), some (.sl []) => match putV L p .slx (fun own => setO own (match p with | .t _ j => j | .b _ j => j | .a _ j => j) (.ex e dp [])) with
   | some us => some us
   | none => none
  | _, _ => none
 | .ag p => match Z6c L p with
  | some (.ex e true xs) => match putO (L.upd (.f (Z6l p))) p (.ex e false xs) with
   | some us => some (.f (Z6l p) :: us)
   | none => none
  | _ => none
 | .so k => match L.b k with
  | some (.cells cs own) => some [.b k (.cells cs (Zuk own))]
  | _ => none
 | .pl t => match L.t t with
  | some (.v .slx, [(0, .al p [])]) => match Z6c L p with
   | some (.ex e dp xs) => match unL (L.upd (.f (Z6l p))) p with
    | some us => some (.f (Z6l p) :: us ++ fresh t ++ [.t t (.v .slx, [(0, .ex e dp xs)])])
    | none => none
   | _ => none
  | _ => none
theorem Zz5 {s j : Nat} {x : AV} {f : OwnL → OwnL} {us : List Upd} (h : putV L (.t s j) x f = some us) : ∃ v own v', L.t s = some (.v v, own) ∧ v.setc j x = some v' ∧ us = [.t s (.v v', f own)] := by
 simp only [putV] at h
 split at h
 ·rename_i v own hs
  split at h
  ·rename_i v' hv; cases h; exact ⟨v, own, v', hs, hv, rfl⟩
  ·cases h
 ·cases h
theorem Zz6 {s j : Nat} {x : AV} {f : OwnL → OwnL} {us : List Upd} (h : putV L (.b s j) x f = some us) : ∃ cs own, L.b s = some (.cells cs own) ∧ j < cs.length ∧ us = [.b s (.cells (cs.set j x) (f own))] := by
 simp only [putV] at h
 split at h
 ·rename_i cs own hs
  split at h
  ·rename_i v' hv; cases h; exact ⟨cs, own, hs, (List.getElem?_eq_some_iff.1 hv).1, rfl⟩
  ·cases h
 ·cases h
theorem Zrq {X : Gh} {v v' x : AV} {j : Nat} {u c : Value} (h : v.setc j x = some v') (hr : Rel X w v u) (hc : (Value.flat u)[j]? = some c) (hx : Rel X w x c) (hsl : ∃ A l k, c = .slice A l k) : Rel X w v' u := by
 unfold AV.setc at h
 split at h
 ·rename_i cs
  split at h
  ·cases h
   obtain ⟨us, rfl, hl⟩ := hr
   refine ⟨us, rfl, ?_⟩
   have hc' : us[j]? = some c := by simpa [Value.flat, Value.cells] using hc
   have := RelL.set (cs := cs) (us := us) j hl hx
   have e : us.set j c = us := by
    apply List.ext_getElem?
    intro i
    rw [List.getElem?_set]
    split
    ·rename_i hij; subst hij; rw [if_pos (List.getElem?_eq_some_iff.1 hc').1, hc']
    ·rfl
   rwa [e] at this
  ·cases h
 ·split at h
  ·cases h
   obtain ⟨A, l, k, rfl⟩ := hr
   have hc' : (#[Value.slice A l k].toList)[0]? = some c := hc
   simp at hc'
   subst hc'; exact hx
  ·cases h
 ·split at h
  ·cases h
   obtain ⟨A, l, k, rfl, _⟩ := hr
   have hc' : (#[Value.slice A l k].toList)[0]? = some c := hc
   simp at hc'
   subst hc'; exact hx
  ·cases h
 ·cases h
theorem Inv.share (hI : Inv E L a w G) {p : OP} {e : TypeId} {dp : Bool} {xs : List (List AV)} (hr : Z6c L p = some (.ex e dp xs)) (hn : NoRef (Z6l p) L) :
  ∃ G', Inv E (L.rmP p) a w G' ∧ Rel G'.X w (.sl xs) (G.pv p) ∧ G'.bx = G.bx ∧ G'.lab = G.lab ∧ (∀ b, G.lab b ≠ some (.own p) → G'.X b = G.X b) := by
 obtain ⟨i1, a1⟩ := hI.rmP hn
 obtain ⟨u, hown⟩ := Z8j hI hr rfl
 have hu := hown.pv rfl
 have hh := Zmt hown
 let X' : Gh := fun b => match decide (G.lab b = some (.own p)) with | true => none | false => G.X b
 let G' : Gho := { G with X := X' }
 have hX1 : ∀ b, G.lab b = some (.own p) → X' b = none := fun b hb => by simp [X', hb]
 have hX2 : ∀ b, G.lab b ≠ some (.own p) → X' b = G.X b := fun b hb => by simp [X', hb]
 have hE : Ext G.X w X' w := by
  refine ⟨fun b o u hc hk => ⟨hc, ?_⟩, fun r es k hc hk => ⟨hc, ?_⟩⟩
  ·by_cases hb : G.lab b = some (.own p)
   ·simp [okc, hX1 b hb]
   ·simp only [okc, hX2 b hb]; exact hk
  ·by_cases hb : G.lab r = some (.own p)
   ·exact hX1 r hb
   ·rw [hX2 r hb]; exact hk
 have hS : Stp (fun q => q = .own p) w w G G' := by
  refine ⟨rfl, rfl, rfl, Nat.le_refl _, fun b hb hp => ⟨rfl, hX2 b (fun h => hp _ h rfl), rfl⟩, hE, fun b hb => (hI.new b hb).2, fun b hb => ?_, fun b q hq => .inl ⟨q, hq⟩, fun _ _ => rfl, fun _ _ => rfl, ⟨fun _ _ => rfl, fun _ _ => rfl⟩⟩
  have := hI.new b hb
  exact ⟨by show X' b = none; rw [hX2 b (by rw [this.2]; simp)]; exact this.1, this.2⟩
 refine ⟨G', i1.step' a1 hS, ?_, rfl, rfl, hX2⟩
 rw [hu]
 obtain ⟨e', sz, us, F, r1, r2, r3, r4, r5⟩ := hh.row
 have hop : ∀ b ∈ blks u ++ F, X' b = none := fun b hb => hX1 b (r5 b hb)
 refine Z9u r2 r3 ?_ (fun b hb j hj => by simp [okc, G', hop b (by simp [Z4f, hb])])
 cases dp with
 | true => exact DVL.rel _ _ _ r4 (fun b hb => hop b (by simp [hb]))
 | false => exact RelL.mono hE _ _ r4
end Go.Bv

namespace Go.Bv
open Go.RowKit
variable {E : Env} {P : Program} {n : Nat} {L L1 L2 : Look} {a : Act} {w w' : World} {G : Gho} {o : Oper} {d : Nat} {h : Hint} {ups : List Upd} {obs : List Prop} {Q : Exit → Act → World → Prop}
theorem Zub {s j : Nat} {e : SV × OwnL} : (L.rmP (.t s j)).upd (.t s e) = L.upd (.t s e) := by
 simp only [Look.rmP, Look.upd]
 congr 1
 funext k
 by_cases h : k = s <;> simp [h]
theorem Zuc {s j : Nat} {e : BX} : (L.rmP (.b s j)).upd (.b s e) = L.upd (.b s e) := by
 simp only [Look.rmP, Look.upd]
 congr 1
 funext k
 by_cases h : k = s <;> simp [h]
theorem Z135 {p : OP} (h : unL L p = some ups) : L.upds ups = L.rmP p := by
 cases p with
 | t s j =>
  simp only [unL] at h
  split at h
  ·rename_i sv own hs
   cases h
   simp only [Look.upds, List.foldl_cons, List.foldl_nil, Look.upd, Look.rmP]
   congr 1
   funext k
   by_cases e : k = s
   ·subst e; simp [hs]
   ·simp [e]
  ·cases h
 | b s j =>
  simp only [unL] at h
  split at h
  ·rename_i cs own hs
   cases h
   simp only [Look.upds, List.foldl_cons, List.foldl_nil, Look.upd, Look.rmP]
   congr 1
   funext k
   by_cases e : k = s
   ·subst e; simp [hs]
   ·simp [e]
  ·cases h
 | a s j =>
  simp only [unL] at h
  split at h
  ·rename_i own hs
   cases h
   simp only [Look.upds, List.foldl_cons, List.foldl_nil, Look.upd, Look.rmP]
   congr 1
   funext k
   by_cases e : k = s
   ·subst e; simp [hs]
   ·simp [e]
  ·cases h
theorem Z12h (hI : Inv E L a w G) {p : OP} (h : fixL L (.un p) = some ups) : Inv E (L.upds ups) a w G := by
 have e : L.upds ups = L.rmP p := by
  cases p with
  | t s j =>
   simp only [fixL] at h
   split at h
   ·rename_i sv own hs
    cases h
    simp only [Look.upds, List.foldl_cons, List.foldl_nil, Look.upd, Look.rmP]
    congr 1
    funext k
    by_cases e : k = s
    ·subst e; simp [hs]
    ·simp [e]
   ·cases h
  | b s j =>
   simp only [fixL] at h
   split at h
   ·rename_i cs own hs
    cases h
    simp only [Look.upds, List.foldl_cons, List.foldl_nil, Look.upd, Look.rmP]
    congr 1
    funext k
    by_cases e : k = s
    ·subst e; simp [hs]
    ·simp [e]
   ·cases h
  | a s j =>
   simp only [fixL] at h
   split at h
   ·rename_i own hs
    cases h
    simp only [Look.upds, List.foldl_cons, List.foldl_nil, Look.upd, Look.rmP]
    congr 1
    funext k
    by_cases e : k = s
    ·subst e; simp [hs]
    ·simp [e]
   ·cases h
 rw [e]
 exact hI.less (Sub.rmP p L)
theorem Z12j (hI : Inv E L a w G) {p : OP} (h : fixL L (.sh p) = some ups) : SR E (L.upds ups) a w := by
 simp only [fixL] at h
 split at h
 ·rename_i e dp xs hr
  split at h
  ·rename_i us hp
   cases h
   have hn := NoRef.of (Z6l p) L
   have i1 := hI.forget (Z6l p)
   obtain ⟨u, hown⟩ := Z8j hI hr rfl
   have hsl := Z55 hown rfl
   rw [← hown.pv rfl] at hsl
   cases p with
   | a s j => cases hp
   | t s j =>
    obtain ⟨v, own, v', h1, h2, rfl⟩ := Zz5 hp
    have h3 := (f_t.1 h1).1
    have hr1 : Z6c (L.upd (.f (Z6l (.t s j)))) (.t s j) = some (.ex e dp xs) := by
     simp only [Z6c, h3] at hr
     simp only [Z6c, h1, hr]
    obtain ⟨G', i2, k1, k2, k3, k4⟩ := i1.share hr1 hn
    have hat : (Value.flat (a.tmps.getD s undef))[j]? = some (G.pv (.t s j)) := hI.rootAt hr rfl
    obtain ⟨q1, q2, q3⟩ := i2.tm s (.v v) (rmO own j) (by simp [Look.rmP, h1])
    have := i2.setT' (sv := .v v') (own := rmO own j) q1 (Zrq h2 q2 hat k1 hsl) q3
    rw [Zub] at this
    exact ⟨G', this⟩
   | b s j =>
    obtain ⟨cs, own, h1, h2, rfl⟩ := Zz6 hp
    have h3 := (f_b.1 h1).1
    have hr1 : Z6c (L.upd (.f (Z6l (.b s j)))) (.b s j) = some (.ex e dp xs) := by
     simp only [Z6c, h3] at hr
     simp only [Z6c, h1, hr]
    obtain ⟨G', i2, k1, k2, k3, k4⟩ := i1.share hr1 hn
    have hat : w.cell? ⟨G.bx s, j, none⟩ = some (G.pv (.b s j)) := hI.rootAt hr rfl
    obtain ⟨q1, q2, us, te, q3, q4⟩ := i2.bo s (.cells cs (rmO own j)) (by simp [Look.rmP, h1])
    have hc : us[j]? = some (G.pv (.b s j)) := by rw [← k2, Z4u q3] at hat; exact hat
    have := i2.setB (d := s) (x := .cells (cs.set j (.sl xs)) (rmO own j)) q1 q2 ⟨us, te, q3, by
     have := RelL.set j q4.rel k1
     have e : us.toList.set j (G.pv (.b s j)) = us.toList := by
      apply List.ext_getElem?
      intro i
      rw [List.getElem?_set]
      split
      ·rename_i hij; subst hij
       have hc' : us.toList[j]? = some (G.pv (.b s j)) := by simpa using hc
       rw [if_pos (List.getElem?_eq_some_iff.1 hc').1, hc']
      ·rfl
     rwa [e] at this, q4.own⟩
    rw [Zuc] at this
    exact ⟨G', this⟩
  ·cases h
 ·cases h
theorem Zoc {p : OP} {e : TypeId} {dp : Bool} {c : Value} (ho : Own P G w p (.app e) c) (hc : Rel G.X w (.sl []) c) : Own P G w p (.ex e dp []) c := by
 obtain ⟨h1, F, ⟨sz, m, us, h2, h3, rfl, h4⟩, h5⟩ := ho
 obtain ⟨A, len, cap, rfl, hl, _⟩ := hc
 have hm : m = 0 := by
  rcases h3.2 with ⟨_, e2⟩ | ⟨g, cp, cur, e1, _⟩
  ·exact e2
  ·cases e1; simpa using hl
 subst hm
 have hus : us = [] := List.eq_nil_of_length_eq_zero (by rw [h3.1]; simp)
 subst hus
 refine ⟨h1, _, ⟨e, sz, [], [], .inl rfl, h2, h3, by simp, ?_, by simp, ?_, fun b hb => by rw [h4 b hb]; simp⟩, h5⟩
 ·cases dp with
  | true => exact ⟨rfl, rfl⟩
  | false => exact ⟨rfl, rfl⟩
 ·unfold blks; split <;> simp
theorem Z12l (hI : Inv E L a w G) {p : OP} {dp : Bool} (h : fixL L (.ow p dp) = some ups) : Inv E (L.upds ups) a w G := by
 simp only [fixL] at h
 split at h
 ·rename_i e hr hv
  split at h
  ·rename_i us hp
   cases h
   cases p with
   | a s j => cases hp
   | t s j =>
    obtain ⟨v, own, v', h1, h2, rfl⟩ := Zz5 hp
    obtain ⟨q1, q2, q3⟩ := hI.tm s _ _ h1
    have hlk : (j, OE.app e) ∈ own := by simp only [Z6c, h1] at hr; exact Z3x hr
    obtain ⟨c, hc, hoc⟩ := q3 j _ hlk
    have hrc : Rel G.X w (.sl []) c := Zy5 (by simpa [Zzt, h1] using hv) q2 hc
    refine hI.setT' (sv := .v v') q1 (Zrq h2 q2 hc (Z55 hoc rfl) (Z55 hoc rfl)) (fun i oe hi => ?_)
    rcases Zas hi with ⟨rfl, rfl⟩ | ⟨_, hi⟩
    ·exact ⟨c, hc, Zoc hoc hrc⟩
    ·exact q3 i oe hi
   | b s j =>
    obtain ⟨cs, own, h1, h2, rfl⟩ := Zz6 hp
    obtain ⟨q1, q2, us0, te, q3, q4⟩ := hI.bo s _ h1
    have hlk : (j, OE.app e) ∈ own := by simp only [Z6c, h1] at hr; exact Z3x hr
    obtain ⟨c, hc, hoc⟩ := q4.own j _ hlk
    have hv' : cs[j]? = some (.sl []) := by simpa [Zzt, h1] using hv
    obtain ⟨c', hc', hrc⟩ := q4.rel.get j hv'
    have hcc : c' = c := by
     have : us0.toList[j]? = some c := by simpa using hc
     rw [hc'] at this; cases this; rfl
    subst hcc
    refine hI.setB (d := s) (x := .cells (cs.set j .slx) (setO own j (.ex e dp []))) q1 q2 ⟨us0, te, q3, ?_, fun i oe hi => ?_⟩
    ·have := RelL.set (c := .slx) (u := c') j q4.rel (Z55 hoc rfl)
     have e : us0.toList.set j c' = us0.toList := by
      apply List.ext_getElem?
      intro i
      rw [List.getElem?_set]
      split
      ·rename_i hij; subst hij; rw [if_pos (List.getElem?_eq_some_iff.1 hc').1, hc']
      ·rfl
     rwa [e] at this
    ·rcases Zas hi with ⟨rfl, rfl⟩ | ⟨_, hi⟩
     ·exact ⟨c', hc, Zoc hoc hrc⟩
     ·exact q4.own i oe hi
  ·cases h
 ·cases h
theorem Z12m (hI : Inv E L a w G) {p : OP} (h : fixL L (.ag p) = some ups) : SR E (L.upds ups) a w := by
 classical
 simp only [fixL] at h
 split at h
 ·rename_i e xs hr
  split at h
  ·rename_i us hp
   cases h
   have hn := NoRef.of (Z6l p) L
   have i1 := hI.forget (Z6l p)
   obtain ⟨i2, a2⟩ := i1.rmP hn
   have hat := hI.rootAt hr rfl
   obtain ⟨u, hown⟩ := Z8j hI hr rfl
   have hu := hown.pv rfl
   obtain ⟨_, F, ⟨e', sz, vs, F', g0, g1, g2, g3, g4, rfl, g6, g7⟩, hF⟩ := hown
   let X' : Gh := fun b => if b ∈ F' then none else G.X b
   let G' : Gho := { G with X := X' }
   have hX1 : ∀ b, b ∈ F' → X' b = none := fun b hb => if_pos hb
   have hX2 : ∀ b, b ∉ F' → X' b = G.X b := fun b hb => if_neg hb
   have hlab : ∀ b, b ∈ F' → G.lab b = some (.own p) := fun b hb => hF b (by simp [hb])
   have hE : Ext G.X w X' w := by
    refine ⟨fun b o u hc hk => ⟨hc, ?_⟩, fun r es k hc hk => ⟨hc, ?_⟩⟩
    ·by_cases hb : b ∈ F'
     ·simp [okc, hX1 b hb]
     ·simp only [okc, hX2 b hb]; exact hk
    ·by_cases hb : r ∈ F'
     ·exact hX1 r hb
     ·rw [hX2 r hb]; exact hk
   have hS : Stp (fun q => q = .own p) w w G G' := by
    refine ⟨rfl, rfl, rfl, Nat.le_refl _, fun b hb hp => ⟨rfl, hX2 b (fun h => hp _ (hlab b h) rfl), rfl⟩, hE, fun b hb => (hI.new b hb).2, fun b hb => ?_, fun b q hq => .inl ⟨q, hq⟩, fun _ _ => rfl, fun _ _ => rfl, ⟨fun _ _ => rfl, fun _ _ => rfl⟩⟩
    have := hI.new b hb
    exact ⟨by show X' b = none; rw [hX2 b (fun h => by have := hlab b h; rw [(hI.new b hb).2] at this; cases this)]; exact this.1, this.2⟩
   have i3 := i2.step' a2 hS
   refine ⟨G', ?_⟩
   show Inv E ((L.upd (.f (Z6l p))).upds us) a w G'
   rw [Zj5 hp]
   refine i3.back ?_ ?_
   ·cases p <;> exact hat
   ·show Own E.P G' w p (.ex e false xs) (G.pv p)
    rw [hu]
    refine ⟨hu, blks u, ⟨e', sz, vs, [], g0, g1, g2, g3, ⟨rfl, DVL.rel _ _ _ g4 (fun b hb => hX1 b hb)⟩, by simp, ?_, fun b hb => ?_⟩, fun b hb => hF b (by simp [hb])⟩
    ·exact (List.nodup_append.1 g6).1
    ·show X' b = some 0
     rw [hX2 b (fun h => (List.nodup_append.1 g6).2.2 b hb b h rfl)]
     exact g7 b (by simp [hb])
  ·cases h
 ·cases h
theorem Z12i (hI : Inv E L a w G) {k : Nat} (h : fixL L (.so k) = some ups) : Inv E (L.upds ups) a w G := by
 simp only [fixL] at h
 split at h
 ·rename_i cs own hb
  cases h
  refine hI.less ⟨fun s sv own0 hs => ⟨own0, hs, Z7o, fun j oe hj => ⟨hj, Z1i⟩⟩, fun d x hd => ⟨fun h => h.elim id id, ?_⟩, fun i own0 hg => ⟨own0, hg, fun j oe hj => ⟨hj, Z1i⟩⟩⟩
  by_cases e : d = k
  ·subst e
   have hx : x = .cells cs (Zuk own) := by simpa [Look.upds, Look.upd] using hd.symm
   subst hx
   exact ⟨_, hb, rfl, fun j oe hj => ⟨Zof hj, Z1i⟩⟩
  ·have hd' : L.b d = some x := by simpa [Look.upds, Look.upd, e] using hd
   refine ⟨x, hd', ?_⟩
   cases x with
   | cells cs' own' => exact ⟨rfl, fun j oe hj => ⟨hj, Z1i⟩⟩
   | map ks vs => exact ⟨rfl, rfl⟩
   | part m cs => exact ⟨rfl, rfl⟩
   | ref q => exact ⟨rfl, fun h => h⟩
 ·cases h
theorem Z12k (hI : Inv E L a w G) {t : Nat} (h : fixL L (.pl t) = some ups) : SR E (L.upds ups) a w := by
 simp only [fixL] at h
 split at h
 ·rename_i p ht
  split at h
  ·rename_i e dp xs hr
   split at h
   ·rename_i us hus
    cases h
    obtain ⟨htn, hrel, hoo⟩ := hI.tm t _ _ ht
    obtain ⟨c, hc, hoc⟩ := hoo 0 (.al p []) (by simp)
    have hcp : c = G.pv p := hoc.1
    obtain ⟨u, hown⟩ := Z8j hI hr rfl
    have hu := hown.pv rfl
    obtain ⟨_, F, hRs, hF⟩ := hown
    have hn := NoRef.of (Z6l p) L
    have i1 := hI.forget (Z6l p)
    obtain ⟨i2, a2⟩ := i1.rmP hn
    obtain ⟨i3, a3⟩ := i2.fresh htn
    have a2' : Av (fun q => q = .own p) (((L.upd (.f (Z6l p))).rmP p).upds (fresh t)) := (a2.f _).setT trivial (fun j oe hj => by cases hj)
    let f : LP → LP := fun l => if l = .own p then .own (.t t 0) else l
    let pv' : OP → Value := fun q => if q = .t t 0 then u else G.pv q
    have hS : Stp (fun q => q = .own p ∨ DR (.t t) q) w w G (G.relab f pv') := Stp.relab hI (fun l hl => by
      have : l ≠ .own p := fun e => hl (.inl e)
      simp [f, this]) (fun q hq => by
      have : q ≠ .t t 0 := fun e => hq (.inr (by rw [e]; exact rfl))
      simp [pv', this]) (fun i j => rfl)
    have i4 := i3.step' (a2'.or a3) hS
    have hrel' : RelS (G.relab f pv') w (.v .slx) (a.tmps.getD t undef) := hrel
    have hRs' : Rs E.P (G.relab f pv').X w (.ex e dp xs) u F := hRs
    have i5 := i4.setT' htn (sv := .v .slx) (own := [(0, .ex e dp xs)]) hrel' (fun j oe hj => by
     have hj' := List.mem_singleton.1 hj
     cases hj'
     refine ⟨c, hc, ?_⟩
     rw [hcp, hu]
     exact ⟨by simp [Gho.relab, pv'], F, hRs', fun b hb => by simp [Gho.relab, hF b hb, f]⟩)
    have eq : L.upds (.f (Z6l p) :: us ++ fresh t ++ [.t t (.v .slx, [(0, .ex e dp xs)])]) = (((L.upd (.f (Z6l p))).rmP p).upds (fresh t)).upd (.t t (.v .slx, [(0, .ex e dp xs)])) := by
     rw [← Z135 hus]
     simp [Look.upds, List.foldl_append]
    rw [eq]
    exact ⟨_, i5⟩
   ·cases h
  ·cases h
 ·cases h
theorem Zlx (hI : SR E L a w) {f : Fix} (h : fixL L f = some ups) : SR E (L.upds ups) a w := by
 obtain ⟨G, hI⟩ := hI
 cases f with
 | un p => exact ⟨G, Z12h hI h⟩
 | sh p => exact Z12j hI h
 | ow p dp => exact ⟨G, Z12l hI h⟩
 | ag p => exact Z12m hI h
 | so k => exact ⟨G, Z12i hI h⟩
 | pl t => exact Z12k hI h
def Zi3 (st : St) : List Fix → Option St
 | [] => some st
 | f :: fs => match fixL st.look f with | some us => Zi3 (st.upds us) fs | none => none
theorem Z88 : ∀ {fs : List Fix} {st st' : St}, SR E st.look a w → Zi3 st fs = some st' → SR E st'.look a w
 | [], st, st', hI, h => by cases h; exact hI
 | f :: fs, st, st', hI, h => by
  simp only [Zi3] at h
  split at h
  ·rename_i us hu
   exact Z88 (by rw [St.look_upds]; exact Zlx hI hu) h
  ·cases h
def Zy9 (L : Look) : List Fix → Option (List Upd)
 | [] => some []
 | f :: fs => match fixL L f with
  | some us => match Zy9 (L.upds us) fs with
   | some vs => some (us ++ vs)
   | none => none
  | none => none
theorem Zjv : ∀ {fs : List Fix} {L : Look} {us : List Upd}, SR E L a w → Zy9 L fs = some us → SR E (L.upds us) a w
 | [], L, us, hI, h => by cases h; exact hI
 | f :: fs, L, us, hI, h => by
  simp only [Zy9] at h
  split at h
  ·rename_i us1 h1
   split at h
   ·rename_i us2 h2
    cases h
    have := Zjv (Zlx hI h1) h2
    simpa [Look.upds, List.foldl_append] using this
   ·cases h
  ·cases h
end Go.Bv

namespace Go.Bv
open Go.RowKit
variable {E : Env} {P : Program} {n : Nat} {L L1 L2 : Look} {a : Act} {w w' : World} {G : Gho} {o : Oper} {d : Nat} {h : Hint} {ups : List Upd} {obs : List Prop} {Q : Exit → Act → World → Prop}
def Z11c (P : Program) (n : Nat) (L : Look) (o : Oper) (h : Hint) : Ans :=
 match o.dst with
 | none => match o.op with | .store T x y => Zqi P L T x y h | _ => none
 | some d => match Nat.blt d n with | true => aOp P L o d h | false => none
def Zps : List Upd → Option AV → Option (List Upd × List Prop)
 | us, none => some (us, [])
 | [], some _ => none
 | [.t d (.v v, own)], some v' => some ([.t d (.v v', own)], [v = v'])
 | u :: us, some v' => match Zps us (some v') with
  | some (us', ob) => some (u :: us', ob)
  | none => none
theorem Zmd : ∀ {us : List Upd} {x : Option AV} {vs : List Upd} {ob : List Prop}, Zps us x = some (vs, ob) → (∀ p ∈ ob, p) → vs = us
 | us, none, vs, ob, h, _ => by
  cases us with
  | nil => simp only [Zps] at h; cases h; rfl
  | cons u us => cases us <;> (simp only [Zps] at h; cases h; rfl)
 | [], some _, vs, ob, h, _ => by simp [Zps] at h
 | u :: us, some v', vs, ob, h, hob => by
  have tail : ∀ {us' : List Upd} {ob' : List Prop}, Zps us (some v') = some (us', ob') → vs = u :: us' → ob = ob' → vs = u :: us := by
   rintro us' ob' h1 rfl rfl
   rw [Zmd h1 hob]
  unfold Zps at h
  split at h
  ·rename_i heq; cases heq
  ·cases h
  ·rename_i heq1 heq2
   cases heq2
   cases heq1
   cases h
   have : _ = _ := hob _ (List.mem_singleton.2 rfl)
   subst this; rfl
  ·rename_i heq1 heq2
   cases heq2
   cases heq1
   split at h
   ·rename_i us' ob' h1
    cases h
    exact tail h1 rfl rfl
   ·cases h
def Zyt (P : Program) (n : Nat) (L : Look) (o : Oper) (h : Hint) : Ans :=
 match Z11c P n L o h with
 | some (us, ob) => match Zps us h.re with
  | some (vs, ob2) => some (vs, ob ++ ob2)
  | none => none
 | none => none
def Zx6 (P : Program) (n : Nat) (L : Look) (o : Oper) (h : Hint) : Ans :=
 match h.fx with
 | [] => Zyt P n L o h
 | fx => match Zy9 L fx with
  | some us => match Zyt P n (L.upds us) o h with
   | some (vs, ob) => some (us ++ vs, ob)
   | none => none
  | none => none
def Zsu (n : Nat) (o : Oper) : Option (List Upd) :=
 match o.dst with
 | none => some []
 | some d => match Nat.blt d n with | true => some (fresh d ++ [.t d (.v (.tup []), [])]) | false => none
def Zst (P : Program) (n : Nat) (ops : List Oper) (L : Look) (o : Oper) (h : Hint) : Ans :=
 match o.guard with
 | none => Zx6 P n L o h
 | some (j, want) => match (ops[j]?).bind (·.dst) with
  | some t => match L.t t with
   | some (.v (.bool b), _) => match b, want with
    | true, true => Zx6 P n L o h
    | false, false => Zx6 P n L o h
    | _, _ => match Zsu n o with | some s => some (s, []) | none => none
   | some (.v (.tup []), _) => match Zsu n o with | some s => some (s, []) | none => none
   | _ => none
  | none => none
theorem Zrg (hI : SR E L a w) (h1 : Z11c E.P E.n L o h = some (ups, obs)) (hob : ∀ p ∈ obs, p) : o.wp E.P a w (fun a' w' => SR E (L.upds ups) a' w') Q := by
 obtain ⟨G, hI⟩ := hI
 unfold Z11c at h1
 split at h1
 ·rename_i hd
  split at h1
  ·rename_i T x y ho; exact Zxj hI hd ho h1 hob Q
  ·cases h1
 ·rename_i d hd
  split at h1
  ·rename_i hlt; exact Zx7 hI hd (Z4a hlt) h1 hob Q
  ·cases h1
theorem Zkt (hI : SR E L a w) (h1 : Zyt E.P E.n L o h = some (ups, obs)) (hob : ∀ p ∈ obs, p) : o.wp E.P a w (fun a' w' => SR E (L.upds ups) a' w') Q := by
 unfold Zyt at h1
 split at h1
 ·rename_i us ob hr
  split at h1
  ·rename_i vs ob2 hv
   cases h1
   rw [Zmd hv (fun p hp => hob p (by simp [hp]))]
   exact Zrg hI hr (fun p hp => hob p (by simp [hp]))
  ·cases h1
 ·cases h1
theorem Zf8 (hI : SR E L a w) (h1 : Zx6 E.P E.n L o h = some (ups, obs)) (hob : ∀ p ∈ obs, p) : o.wp E.P a w (fun a' w' => SR E (L.upds ups) a' w') Q := by
 unfold Zx6 at h1
 split at h1
 ·exact Zkt hI h1 hob
 ·split at h1
  ·rename_i us hu
   split at h1
   ·rename_i vs ob hv
    cases h1
    have := Zkt (Q := Q) (Zjv hI hu) hv hob
    simpa [Look.upds, List.foldl_append] using this
   ·cases h1
  ·cases h1
theorem Zhz (hI : SR E L a w) (h1 : Zsu E.n o = some ups) : SR E (L.upds ups) (a.put o.dst undef) w := by
 obtain ⟨G, hI⟩ := hI
 unfold Zsu at h1
 split at h1
 ·rename_i hd
  cases h1
  rw [hd]
  exact ⟨G, hI⟩
 ·rename_i d hd
  split at h1
  ·rename_i hlt
   cases h1
   rw [hd]
   obtain ⟨i1, a1⟩ := hI.fresh (Z4a hlt)
   have e : L.upds (fresh d ++ [.t d (.v (.tup []), [])]) = (L.upds (fresh d)).upd (.t d (.v (.tup []), [])) := by simp [Look.upds, List.foldl_append]
   rw [e]
   exact ⟨G, i1.setT (Z4a hlt) (sv := .v (.tup [])) ⟨[], rfl, rfl⟩ (fun j oe hj => by cases hj)⟩
  ·cases h1
theorem Zu2 {ops : Array Oper} {j t : Nat} {b : Bool} {own : OwnL} (hI : SR E L a w) (hj : (ops.toList[j]?).bind (·.dst) = some t) (ht : L.t t = some (.v (.bool b), own)) :
  yielded ops a.tmps j = some b := by
 obtain ⟨G, hI⟩ := hI
 have := hI.tm t _ own ht
 have hb : a.tmps.getD t undef = .bool b := this.2.1
 have hlt : t < a.tmps.size := by rw [hI.size]; exact this.1
 have hg : a.tmps[t]? = some (.bool b) := by
  simp only [Array.getD_eq_getD_getElem?, Array.getElem?_eq_getElem hlt, Option.getD_some] at hb
  rw [Array.getElem?_eq_getElem hlt, hb]
 simp only [Array.getElem?_toList] at hj
 simp [yielded, hj, hg]
theorem Zu3 {ops : Array Oper} {j t : Nat} {own : OwnL} (hI : SR E L a w) (hj : (ops.toList[j]?).bind (·.dst) = some t) (ht : L.t t = some (.v (.tup []), own)) :
  yielded ops a.tmps j = none := by
 obtain ⟨G, hI⟩ := hI
 have := hI.tm t _ own ht
 obtain ⟨us, hb, hus⟩ : Rel G.X w (.tup []) (a.tmps.getD t undef) := this.2.1
 have hus' : us = [] := hus
 subst hus'
 have hlt : t < a.tmps.size := by rw [hI.size]; exact this.1
 have hg : a.tmps[t]? = some (.tuple #[]) := by
  simp only [Array.getD_eq_getD_getElem?, Array.getElem?_eq_getElem hlt, Option.getD_some] at hb
  rw [Array.getElem?_eq_getElem hlt, hb]
 simp only [Array.getElem?_toList] at hj
 simp [yielded, hj, hg]
theorem Zhy {ops : Array Oper} (hI : SR E L a w) (h1 : Zst E.P E.n ops.toList L o h = some (ups, obs)) (hob : ∀ p ∈ obs, p)
  {K : Act → World → Prop} (hK : ∀ a' w', SR E (L.upds ups) a' w' → K a' w') :
  if Region.wanted o (yielded ops a.tmps) then o.wp E.P a w K Q ∨ (o.asks E.P a w ∧ LetsOut Q) else K (a.put o.dst undef) w := by
 unfold Zst at h1
 split at h1
 ·rename_i hg
  have : Region.wanted o (yielded ops a.tmps) = true := by simp [Region.wanted, hg]
  rw [if_pos this]
  exact .inl (Oper.wp_mono hK (Zf8 hI h1 hob))
 ·rename_i j want hg
  split at h1
  ·rename_i t hj
   split at h1
   ·rename_i b own ht
    have hy := Zu2 hI hj ht
    split at h1
    ·have : Region.wanted o (yielded ops a.tmps) = true := by simp [Region.wanted, hg, hy]
     rw [if_pos this]
     exact .inl (Oper.wp_mono hK (Zf8 hI h1 hob))
    ·have : Region.wanted o (yielded ops a.tmps) = true := by simp [Region.wanted, hg, hy]
     rw [if_pos this]
     exact .inl (Oper.wp_mono hK (Zf8 hI h1 hob))
    ·rename_i q1 q2
     have : Region.wanted o (yielded ops a.tmps) = false := by
      cases b <;> cases want <;> simp_all [Region.wanted]
     rw [this]
     simp only [Bool.false_eq_true, if_false]
     split at h1
     ·rename_i s hs
      cases h1
      exact hK _ _ (Zhz hI hs)
     ·cases h1
   ·rename_i own ht
    have hy := Zu3 hI hj ht
    have : Region.wanted o (yielded ops a.tmps) = false := by simp [Region.wanted, hg, hy]
    rw [this]
    simp only [Bool.false_eq_true, if_false]
    split at h1
    ·rename_i s hs
     cases h1
     exact hK _ _ (Zhz hI hs)
    ·cases h1
   ·cases h1
  ·cases h1
def Zw6 (L : Look) : List Nat → List Upd
 | [] => []
 | t :: r => match L.t t with
  | some (.v .slx, _) => .t t (.v .slx, []) :: Zw6 L r
  | _ => Zw6 L r
def Zpw (P : Program) (n : Nat) (ops : List Oper) (L : Look) (o : Oper) (h : Hint) : Ans :=
 match h.dr with
 | [] => Zst P n ops L o h
 | ds => match Zst P n ops L o h with
  | some (ups, obs) => some (ups ++ Zw6 (L.upds ups) ds, obs)
  | none => none
theorem Zk4 {L0 : Look} {G : Gho} (h0 : Inv E L0 a w G) : ∀ (l : List Nat) (L : Look), Inv E L a w G → Inv E (L.upds (Zw6 L0 l)) a w G
 | [], L, h => h
 | t :: l, L, h => by
  simp only [Zw6]
  split
  ·rename_i own hx
   obtain ⟨hn, hr, _⟩ := h0.tm t _ _ hx
   exact Zk4 h0 l (L.upd (.t t (.v .slx, []))) (h.setT' (d := t) hn (sv := .v .slx) hr (fun j oe hj => by cases hj))
  ·exact Zk4 h0 l L h
theorem Zhx {ops : Array Oper} (hI : SR E L a w) (h1 : Zpw E.P E.n ops.toList L o h = some (ups, obs)) (hob : ∀ p ∈ obs, p)
  {K : Act → World → Prop} (hK : ∀ a' w', SR E (L.upds ups) a' w' → K a' w') :
  if Region.wanted o (yielded ops a.tmps) then o.wp E.P a w K Q ∨ (o.asks E.P a w ∧ LetsOut Q) else K (a.put o.dst undef) w := by
 unfold Zpw at h1
 split at h1
 ·exact Zhy hI h1 hob hK
 ·split at h1
  ·rename_i ups1 obs1 hb
   cases h1
   refine Zhy hI hb hob (fun a' w' hI' => hK a' w' ?_)
   obtain ⟨G, hI'⟩ := hI'
   rw [Z1t]
   exact ⟨G, Zk4 hI' _ _ hI'⟩
  ·cases h1
def Zx5 (P : Program) (n : Nat) (ops : List Oper) (st : St) (o : Oper) (h : Hint) : Option (St × List Prop) :=
 match Zpw P n ops st.look o h with
 | some (ups, obs) => some (st.upds ups, obs)
 | none => none
def aOps (P : Program) (n : Nat) (ops : List Oper) : List Oper → List Hint → St → Option (St × List Prop)
 | [], _, st => some (st, [])
 | o :: rest, hs, st =>
  match Zx5 P n ops st o (hs.headD {}) with
  | some (st1, ob1) => match aOps P n ops rest hs.tail st1 with
   | some (st2, ob2) => some (st2, ob1 ++ ob2)
   | none => none
  | none => none
theorem Zf7 {ops : Array Oper} {st st' : St} (hI : SR E st.look a w) (h1 : Zx5 E.P E.n ops.toList st o h = some (st', obs)) (hob : ∀ p ∈ obs, p)
  {K : Act → World → Prop} (hK : ∀ a' w', SR E st'.look a' w' → K a' w') :
  if Region.wanted o (yielded ops a.tmps) then o.wp E.P a w K Q ∨ (o.asks E.P a w ∧ LetsOut Q) else K (a.put o.dst undef) w := by
 unfold Zx5 at h1
 split at h1
 ·rename_i ups ob hs
  cases h1
  exact Zhx hI hs hob (fun a' w' hI' => hK a' w' (by rw [St.look_upds]; exact hI'))
 ·cases h1
theorem Zmg {ops : Array Oper} : ∀ (l : List Oper) (k : Nat) (hs : List Hint) (st st' : St) (obs : List Prop) (a : Act) (w : World), (∀ i, l[i]? = ops[k + i]?) → SR E st.look a w →
  aOps E.P E.n ops.toList l hs st = some (st', obs) → (∀ p ∈ obs, p) → (∀ a' w', SR E st'.look a' w' → Q .normal a' w') → wpOps E.P ops Q (List.range' k l.length) a w
 | [], k, hs, st, st', obs, a, w, hl, hI, h, hob, hQ => by
  simp [aOps] at h
  obtain ⟨rfl, _⟩ := h
  exact hQ a w hI
 | o :: rest, k, hs, st, st', obs, a, w, hl, hI, h, hob, hQ => by
  simp only [aOps] at h
  split at h
  ·rename_i st1 ob1 h1
   split at h
   ·rename_i st2 ob2 h2
    cases h
    have ho : ops[k]? = some o := by have := hl 0; simpa using this.symm
    rw [List.length_cons, List.range'_succ]
    simp only [wpOps, ho]
    exact Zf7 hI h1 (fun p hp => hob p (by simp [hp])) (fun a' w' hI' =>
     Zmg rest (k + 1) hs.tail st1 _ ob2 a' w' (fun i => by
      have := hl (i + 1)
      rw [show k + (i + 1) = k + 1 + i by omega] at this
      simpa using this) hI' h2 (fun p hp => hob p (by simp [hp])) hQ)
   ·cases h
  ·cases h
end Go.Bv

namespace Go.Bv
open Go.RowKit
inductive AE where
 | normal
 | exit (id : Nat)
 | ret
def AE.toExit : AE → Exit
 | .normal => .normal
 | .exit id => .exit id
 | .ret => .ret
def Wc (E : Env) (c : Code) (st : St) (K : AE → St → Prop) : Prop :=
 ∀ a w, SR E st.look a w → ∀ Q : Exit → Act → World → Prop, (∀ e st' a' w', K e st' → SR E st'.look a' w' → Q e.toExit a' w') → c.wp E.P Q a w
def AllP : List Prop → Prop
 | [] => True
 | p :: ps => p ∧ AllP ps
theorem AllP.mem : ∀ {ps : List Prop}, AllP ps → ∀ p ∈ ps, p
 | [], _, p, h => by cases h
 | q :: ps, ⟨h1, h2⟩, p, h => by
  rcases List.mem_cons.1 h with rfl | h
  ·exact h1
  ·exact AllP.mem h2 p h
def Zqf {α : Type} (l : List (Nat × α)) : List Nat → Option (List (Nat × α))
 | [] => some []
 | k :: ks => match lk l k, Zqf l ks with | some v, some r => some ((k, v) :: r) | _, _ => none
def St.keep (s : St) (ts bs gs : List Nat) : Option St :=
 match Zqf s.t ts, Zqf s.b bs, Zqf s.g gs with
 | some t, some b, some g => some ⟨t, b, g⟩
 | _, _, _ => none
def aReg (P : Program) (n : Nat) (ops : Array Oper) (hs : List Hint) (fs : List Fix) (st : St) (ts bs gs : List Nat) : Option (St × List Prop) :=
 match aOps P n ops.toList ops.toList hs st with
 | some (s, obs) => match Zi3 s fs with
  | some s1 => match s1.keep ts bs gs with
   | some s' => some (s', obs)
   | none => none
  | none => none
 | none => none
theorem Zfo {α : Type} {l : List (Nat × α)} : ∀ {ks : List Nat} {r : List (Nat × α)}, Zqf l ks = some r → ∀ k v, lk r k = some v → lk l k = some v
 | [], r, h, k, v, hk => by simp [Zqf] at h; subst h; simp [lk] at hk
 | j :: ks, r, h, k, v, hk => by
  simp only [Zqf] at h
  split at h
  ·rename_i v' r' h1 h2
   cases h
   simp only [lk] at hk
   cases hj : Nat.beq j k with
   | true => rw [hj] at hk; cases hk; have := Z3o hj; subst this; exact h1
   | false => rw [hj] at hk; exact Zfo h2 k v hk
  ·cases h
theorem SR.keep {E : Env} {s s' : St} {a : Act} {w : World} {ts bs gs : List Nat} (hI : SR E s.look a w) (h : s.keep ts bs gs = some s') : SR E s'.look a w := by
 obtain ⟨G, hI⟩ := hI
 unfold St.keep at h
 split at h
 ·rename_i t b r h1 h2 h3
  cases h
  refine ⟨G, hI.less ⟨fun s sv own hs => ⟨own, Zfo h1 s _ hs, Z7o, fun j oe hj => ⟨hj, Z1i⟩⟩, fun d x hs => ⟨fun h => h.elim id id, x, Zfo h2 d _ hs, ?_⟩, fun i own hs => ⟨own, Zfo h3 i _ hs, fun j oe hj => ⟨hj, Z1i⟩⟩⟩⟩
  cases x with
  | cells cs own => exact ⟨rfl, fun j oe hj => ⟨hj, Z1i⟩⟩
  | map ks vs => exact ⟨rfl, rfl⟩
  | part m cs => exact ⟨rfl, rfl⟩
  | ref q => exact ⟨rfl, fun h => h⟩
 ·cases h
section
variable {E : Env} {st : St} {K : AE → St → Prop}
theorem Wc.fix {c : Code} {st' : St} (fs : List Fix) (ts bs gs : List Nat) (h : ((Zi3 st fs).bind fun s => s.keep ts bs gs) = some st') (hc : Wc E c st' K) : Wc E c st K := by
 intro a w hI Q hQ
 simp only [Option.bind_eq_some_iff] at h
 obtain ⟨s, h1, h2⟩ := h
 exact hc a w ((Z88 hI h1).keep h2) Q hQ
theorem Wc.region {id : Nat} {ops : Array Oper} (hs : List Hint) (fs : List Fix) (ts bs gs : List Nat) (st' : St) (obs : List Prop) (h : aReg E.P E.n ops hs fs st ts bs gs = some (st', obs)) (hob : AllP obs) (hK : K .normal st') :
  Wc E (.region id ops false) st K := by
 intro a w hI Q hQ
 unfold aReg at h
 split at h
 ·rename_i s ob h1
  split at h
  ·rename_i s1 hf
   split at h
   ·rename_i s' h2
    cases h
    refine wp_region ?_
    have hl : ops.toList.length = ops.size := by simp
    rw [← hl, List.range_eq_range']
    exact Zmg ops.toList 0 hs st s obs a w (fun i => by simp) hI h1 hob.mem (fun a' w' hI' => hQ .normal st' a' w' hK ((Z88 hI' hf).keep h2))
   ·cases h
  ·cases h
 ·cases h
theorem Wc.seq {x y : Code} (h : Wc E x st (fun e st' => match e with | .normal => Wc E y st' K | e => K e st')) : Wc E (.seq x y) st K := by
 intro a w hI Q hQ
 refine wp_seq (h a w hI _ ?_)
 intro e st' a' w' hk hI'
 cases e with
 | normal => exact hk a' w' hI' Q hQ
 | exit id => exact hQ (.exit id) st' a' w' hk hI'
 | ret => exact hQ .ret st' a' w' hk hI'
theorem Wc.skip (h : K .normal st) : Wc E .skip st K := fun a w hI Q hQ => wp_skip (hQ .normal st a w h hI)
theorem Wc.exit {id : Nat} (h : K (.exit id) st) : Wc E (.exit id) st K := fun a w hI Q hQ => wp_exit (hQ (.exit id) st a w h hI)
theorem Wc.ret (h : K .ret st) : Wc E .ret st K := fun a w hI Q hQ => wp_ret (hQ .ret st a w h hI)
theorem Wc.cond {c : Operand} {x y : Code} (b : Bool) (hc : evV st.look c = some (.bool b)) (ht : b = true → Wc E x st K) (hf : b = false → Wc E y st K) : Wc E (.cond c x y) st K := by
 intro a w hI Q hQ
 obtain ⟨G, hI'⟩ := hI
 exact wp_cond_split (Z2k hI' hc) (fun e => ht e a w ⟨G, hI'⟩ Q hQ) (fun e => hf e a w ⟨G, hI'⟩ Q hQ)
theorem Wc.block {id : Nat} {c : Code} (h : Wc E c st (fun e st' => match e with | .exit j => (match Nat.beq j id with | true => K .normal st' | false => K (.exit j) st') | e => K e st')) : Wc E (.block id c) st K := by
 intro a w hI Q hQ
 refine wp_block (h a w hI _ ?_)
 intro e st' a' w' hk hI'
 cases e with
 | normal => exact hQ .normal st' a' w' hk hI'
 | ret => exact hQ .ret st' a' w' hk hI'
 | exit j =>
  show Exit.inBlock id Q (.exit j) a' w'
  simp only [Exit.inBlock]
  cases hb : Nat.beq j id with
  | true =>
   have e := Nat.eq_of_beq_eq_true hb
   rw [if_pos e]; simp only [hb] at hk; exact hQ .normal st' a' w' hk hI'
  | false =>
   have e : j ≠ id := by intro e; subst e; simp at hb
   rw [if_neg e]; simp only [hb] at hk; exact hQ (.exit j) st' a' w' hk hI'
theorem Wc.seqJ {x y : Code} (R : St → Prop) (h : Wc E x st (fun e st' => match e with | .normal => R st' | e => K e st')) (hy : ∀ st', R st' → Wc E y st' K) : Wc E (.seq x y) st K := by
 refine Wc.seq fun a w hI Q hQ => h a w hI Q fun e st' a' w' hk hI' => ?_
 refine hQ e st' a' w' ?_ hI'
 cases e with
 | normal => exact hy st' hk
 | exit id => exact hk
 | ret => exact hk
theorem Wc.condT {c : Operand} {x y : Code} {b : Bool} (hb : b = true) (hc : evV st.look c = some (.bool b)) (h : Wc E x st K) : Wc E (.cond c x y) st K :=
 Wc.cond b hc (fun _ => h) (fun hf => by rw [hb] at hf; cases hf)
theorem Wc.condF {c : Operand} {x y : Code} {b : Bool} (hb : b = false) (hc : evV st.look c = some (.bool b)) (h : Wc E y st K) : Wc E (.cond c x y) st K :=
 Wc.cond b hc (fun hf => by rw [hb] at hf; cases hf) (fun _ => h)
theorem Wc.loop {c : Code} (J : Nat → St → Prop) (hround : ∀ k st, J k st → Wc E c st (fun e st' => match e with | .normal => ∃ k', k' < k ∧ J k' st' | e => K e st')) (k : Nat) (h : J k st) : Wc E (.loop c) st K := by
 intro a w hI Q hQ
 let I : Nat → Act → World → Prop := fun k a w => ∃ st, J k st ∧ SR E st.look a w
 have hex : ∀ a w, (∃ k, I k a w) → ∃ k, I k a w ∧ ∀ j, I j a w → k ≤ j := by
  intro a w ⟨k, hk⟩
  induction k using Nat.strongRecOn with
  | _ k ih =>
   by_cases hm : ∃ j, j < k ∧ I j a w
   ·obtain ⟨j, hj, hi⟩ := hm; exact ih j hj hi
   ·exact ⟨k, hk, fun j hj => Nat.le_of_not_lt fun hlt => hm ⟨j, hlt, hj⟩⟩
 classical
 let μ : Act → World → Nat := fun a w => if h : ∃ k, I k a w then Classical.choose (hex a w h) else 0
 refine wp_loop (fun a w => ∃ k, I k a w) μ ⟨k, st, h, hI⟩ ?_
 intro a1 w1 h1
 obtain ⟨hk1, hmin⟩ := Classical.choose_spec (hex a1 w1 h1)
 have hμ : μ a1 w1 = Classical.choose (hex a1 w1 h1) := dif_pos h1
 obtain ⟨st1, hJ1, hI1⟩ := hk1
 refine hround _ st1 hJ1 a1 w1 hI1 _ ?_
 intro e st' a' w' hk hI'
 cases e with
 | exit id => exact hQ (.exit id) st' a' w' hk hI'
 | ret => exact hQ .ret st' a' w' hk hI'
 | normal =>
  obtain ⟨k', hlt, hJ'⟩ := hk
  have hex' : ∃ k, I k a' w' := ⟨k', st', hJ', hI'⟩
  refine ⟨hex', ?_⟩
  show μ a' w' < μ a1 w1
  have h2 : μ a' w' = Classical.choose (hex a' w' hex') := dif_pos hex'
  rw [hμ, h2]
  exact Nat.lt_of_le_of_lt ((Classical.choose_spec (hex a' w' hex')).2 k' ⟨st', hJ', hI'⟩) hlt
theorem Wc.mono {c : Code} {K' : AE → St → Prop} (h : Wc E c st K') (hK : ∀ e st', K' e st' → K e st') : Wc E c st K :=
 fun a w hI Q hQ => h a w hI Q fun e st' a' w' hk hI' => hQ e st' a' w' (hK e st' hk) hI'
end
end Go.Bv

namespace Go.Bv
open Go.RowKit
variable {P : Program} {w w' : World}
def boxA (i : Nat) : Nat := 1000000 + i
def alsA (i : Nat) : OwnL → OwnL
 | [] => []
 | (j, _) :: l => (j, .al (.a i j) []) :: alsA i l
def Zem : Nat → List AD → List (Nat × (SV × OwnL))
 | _, [] => []
 | k, .v x own :: as => (k, (.v x, own)) :: Zem (k + 1) as
 | k, .io x own :: as => (k, (.v x, alsA k own)) :: Zem (k + 1) as
 | k, .q off _ _ _ :: as => (k, (.ptr (boxA k) off, [])) :: Zem (k + 1) as
def boxQ (m : Nat) (cs : List AV) (own : OwnL) : BX := match m with | 0 => .cells cs own | m + 1 => .part (m + 1) cs
def Zk3 : Nat → List AD → List (Nat × BX)
 | _, [] => []
 | k, .q _ m cs own :: as => (boxA k, boxQ m cs own) :: Zk3 (k + 1) as
 | k, _ :: as => Zk3 (k + 1) as
def Zk1 : Nat → List AD → List (Nat × OwnL)
 | _, [] => []
 | k, .io _ own :: as => (k, own) :: Zk1 (k + 1) as
 | k, _ :: as => Zk1 (k + 1) as
def Z110 (args : List AD) : St := ⟨Zem 0 args, Zk3 0 args, Zk1 0 args⟩
theorem Zjz : ∀ (args : List AD) (k s : Nat) (sv : SV) (own : OwnL), lk (Zem k args) s = some (sv, own) → ∃ j q, s = k + j ∧ args[j]? = some q ∧
  ((∃ x, q = .v x own ∧ sv = .v x) ∨ (∃ x o, q = .io x o ∧ sv = .v x ∧ own = alsA s o) ∨ (∃ off m cs o, q = .q off m cs o ∧ sv = .ptr (boxA s) off ∧ own = []))
 | [], k, s, sv, own, h => by simp [Zem, lk] at h
 | q :: args, k, s, sv, own, h => by
  have step : lk (Zem (k + 1) args) s = some (sv, own) → ∃ j q', s = k + j ∧ (q :: args)[j]? = some q' ∧
    ((∃ x, q' = .v x own ∧ sv = .v x) ∨ (∃ x o, q' = .io x o ∧ sv = .v x ∧ own = alsA s o) ∨ (∃ off m cs o, q' = .q off m cs o ∧ sv = .ptr (boxA s) off ∧ own = [])) := by
   intro h
   obtain ⟨j, y, h1, h2, h3⟩ := Zjz args (k + 1) s sv own h
   exact ⟨j + 1, y, by omega, by simpa using h2, h3⟩
  cases q with
  | v x o =>
   simp only [Zem, lk] at h
   cases hk : Nat.beq k s with
   | true => rw [hk] at h; cases h; exact ⟨0, _, (Z3o hk).symm, rfl, .inl ⟨x, rfl, rfl⟩⟩
   | false => rw [hk] at h; exact step h
  | io x o =>
   simp only [Zem, lk] at h
   cases hk : Nat.beq k s with
   | true => rw [hk] at h; cases h; have := Z3o hk; subst this; exact ⟨0, _, rfl, rfl, .inr (.inl ⟨x, o, rfl, rfl, rfl⟩)⟩
   | false => rw [hk] at h; exact step h
  | q off m cs o =>
   simp only [Zem, lk] at h
   cases hk : Nat.beq k s with
   | true => rw [hk] at h; cases h; have := Z3o hk; subst this; exact ⟨0, _, rfl, rfl, .inr (.inr ⟨off, m, cs, o, rfl, rfl, rfl⟩)⟩
   | false => rw [hk] at h; exact step h
theorem Zk2 : ∀ (args : List AD) (k d : Nat) (x : BX), lk (Zk3 k args) d = some x → ∃ j off m cs own, d = boxA (k + j) ∧ args[j]? = some (.q off m cs own) ∧ x = boxQ m cs own
 | [], k, d, x, h => by simp [Zk3, lk] at h
 | q :: args, k, d, x, h => by
  have step : lk (Zk3 (k + 1) args) d = some x → ∃ j off m cs own, d = boxA (k + j) ∧ (q :: args)[j]? = some (.q off m cs own) ∧ x = boxQ m cs own := by
   intro h
   obtain ⟨j, off, m, cs, own, h1, h2, h3⟩ := Zk2 args (k + 1) d x h
   exact ⟨j + 1, off, m, cs, own, by rw [h1]; unfold boxA; omega, by simpa using h2, h3⟩
  cases q with
  | v x o => exact step h
  | io x o => exact step h
  | q off m cs o =>
   simp only [Zk3, lk] at h
   cases hk : Nat.beq (boxA k) d with
   | true => rw [hk] at h; cases h; exact ⟨0, off, m, cs, o, (Z3o hk).symm, rfl, rfl⟩
   | false => rw [hk] at h; exact step h
theorem Zk0 : ∀ (args : List AD) (k i : Nat) (own : OwnL), lk (Zk1 k args) i = some own → ∃ j x, i = k + j ∧ args[j]? = some (.io x own)
 | [], k, i, own, h => by simp [Zk1, lk] at h
 | q :: args, k, i, own, h => by
  have step : lk (Zk1 (k + 1) args) i = some own → ∃ j x, i = k + j ∧ (q :: args)[j]? = some (.io x own) := by
   intro h
   obtain ⟨j, x, h1, h2⟩ := Zk0 args (k + 1) i own h
   exact ⟨j + 1, x, by omega, by simpa using h2⟩
  cases q with
  | v x o => exact step h
  | q off m cs o => exact step h
  | io x o =>
   simp only [Zk1, lk] at h
   cases hk : Nat.beq k i with
   | true => rw [hk] at h; cases h; exact ⟨0, x, (Z3o hk).symm, rfl⟩
   | false => rw [hk] at h; exact step h
theorem AIns.get {X : Gh} {lab : Lab} : ∀ {args : List AD} {us : List Value} {i : Nat}, AIns P X w lab i args us → ∀ j q, args[j]? = some q → ∃ u, us[j]? = some u ∧ AIn P X w lab (i + j) q u
 | [], us, i, h, j, q, hj => by simp at hj
 | a :: args, us, i, ⟨u, r, e, h1, h2⟩, j, q, hj => by
  subst e
  cases j with
  | zero => simp at hj; subst hj; exact ⟨u, rfl, h1⟩
  | succ j =>
   obtain ⟨v, h3, h4⟩ := h2.get j q (by simpa using hj)
   exact ⟨v, by simpa using h3, by rw [show i + (j + 1) = i + 1 + j by omega]; exact h4⟩
theorem AIns.length {X : Gh} {lab : Lab} : ∀ {args : List AD} {us : List Value} {i : Nat}, AIns P X w lab i args us → us.length = args.length
 | [], us, i, h => by rw [show us = [] from h]; rfl
 | a :: args, us, i, ⟨u, r, e, h1, h2⟩ => by subst e; simp [h2.length]
theorem Zv4 {G : Gho} {p : OP} {oe : OE} {u : Value} {F : List Nat} (hw : oe.owner = true) (hpv : G.pv p = u) (hr : Rs P G.X w oe u F) (hl : ∀ b ∈ F, G.lab b = some (.own p)) : Own P G w p oe u := by
 cases oe with
 | app e => exact ⟨hpv, F, hr, hl⟩
 | ex e dp xs => exact ⟨hpv, F, hr, hl⟩
 | al q π => cases hw
 | sb q π lo sz n => cases hw
theorem Zsa {i j : Nat} {oe : OE} : ∀ {own : OwnL}, (j, oe) ∈ alsA i own → oe = .al (.a i j) [] ∧ ∃ x, (j, x) ∈ own
 | [], h => by cases h
 | (k, y) :: l, h => by
  rcases List.mem_cons.1 h with h | h
  ·cases h; exact ⟨rfl, y, by simp⟩
  ·obtain ⟨h1, x, h2⟩ := Zsa h; exact ⟨h1, x, List.mem_cons_of_mem _ h2⟩
def bxE (us : List Value) (d : Nat) : Nat := match us[d - 1000000]? with | some (.pointer (some ⟨b, _, _⟩)) => b | _ => 0
def labE (args : List AD) : Nat × Nat → Option LP
 | (i, 0) => some (.box (boxA i))
 | (i, j + 1) => match args[i]? with
  | some (.v _ _) => some (.own (.t i j))
  | some (.io _ _) => some (.own (.a i j))
  | some (.q _ _ _ _) => some (.own (.b (boxA i) j))
  | none => none
def pvE (us : List Value) (w : World) : OP → Value
 | .t i j => ((us[i]?).bind fun u => (Value.flat u)[j]?).getD undef
 | .a i j => ((us[i]?).bind fun u => (Value.flat u)[j]?).getD undef
 | .b d j => ((Zka w.heap[bxE us d]?)[j]?).getD undef
def ghoE (X : Gh) (lab : Lab) (args : List AD) (us : List Value) (w : World) : Gho :=
 ⟨X, bxE us, fun b => (lab b).bind (labE args), pvE us w⟩
def envE (P : Program) (n : Nat) (X : Gh) (lab : Lab) (us : List Value) (w : World) (gt : GT P w (fun b => ∃ q, lab b = some q)) : Env :=
 ⟨P, w, X, fun b => ∃ q, lab b = some q, fun i j => pvE us w (.a i j), bxE us, n, gt⟩
theorem Zgb (i : Nat) : boxA i - 1000000 = i := by unfold boxA; omega
theorem Zvs {X : Gh} {lab : Lab} {args : List AD} {us : List Value} {n : Nat} {gt : GT P w (fun b => ∃ q, lab b = some q)} (hn : args.length ≤ n) (hn2 : n ≤ 1000000) (hin : AIns P X w lab 0 args us) (hnew : ∀ b, w.heap.size ≤ b → X b = none ∧ lab b = none) :
  Inv (envE P n X lab us w gt) (Z110 args).look { tmps := us.toArray ++ Array.replicate (n - us.toArray.size) undef, defers := [] } w (ghoE X lab args us w) := by
 have hul := hin.length
 have htm : ∀ (s : Nat) (u : Value), us[s]? = some u → (us.toArray ++ Array.replicate (n - us.toArray.size) undef).getD s undef = u := by
  intro s u hu
  have hlt := (List.getElem?_eq_some_iff.1 hu).1
  rw [Array.getD_eq_getD_getElem?, Array.getElem?_append_left (by simp; omega)]
  simp [hu]
 refine ⟨by simp [envE]; omega, rfl, Fr.refl _ _, fun _ _ _ => rfl, fun b hb => ?_, fun b p hp => ?_, ⟨fun i j => rfl, hn2, fun d hd => rfl⟩, fun s sv own hs => ?_, fun d x hd => ?_, fun i own hi j oe hj => ?_⟩
 ·obtain ⟨h1, h2⟩ := hnew b hb
  exact ⟨h1, by simp [ghoE, h2]⟩
 ·refine .inr ?_
  simp only [ghoE, Option.bind_eq_some_iff] at hp
  obtain ⟨q, hq, _⟩ := hp
  exact ⟨q, hq⟩
 ·obtain ⟨i, q, e, hq, hc⟩ := Zjz args 0 s sv own hs
  rw [Nat.zero_add] at e
  subst e
  obtain ⟨u, hu, hin⟩ := hin.get s q hq
  rw [Nat.zero_add] at hin
  have hlt : s < n := by have := (List.getElem?_eq_some_iff.1 hq).1; omega
  refine ⟨hlt, ?_⟩
  show RelS _ w sv ((us.toArray ++ Array.replicate (n - us.toArray.size) undef).getD s undef) ∧ ∀ j oe, (j, oe) ∈ own → ∃ c, (Value.flat ((us.toArray ++ Array.replicate (n - us.toArray.size) undef).getD s undef))[j]? = some c ∧ _
  rw [htm s u hu]
  rcases hc with ⟨x, rfl, rfl⟩ | ⟨x, o, rfl, rfl, rfl⟩ | ⟨off, m, cs, o, rfl, rfl, rfl⟩
  ·obtain ⟨hr, he⟩ := hin
   refine ⟨hr, fun j oe hj => ?_⟩
   obtain ⟨hw, c, F, hc, hrs, hl⟩ := he j oe hj
   refine ⟨c, hc, Zv4 hw (by simp [ghoE, pvE, hu, hc]) hrs (fun b hb => ?_)⟩
   simp [ghoE, hl b hb, labE, hq]
  ·obtain ⟨hr, he⟩ := hin
   refine ⟨hr, fun j oe hj => ?_⟩
   obtain ⟨rfl, y, hy⟩ := Zsa hj
   obtain ⟨hw, c, F, hc, hrs, hl⟩ := he j y hy
   exact ⟨c, hc, by show c = _; simp [ghoE, pvE, hu, hc], Zmn hrs⟩
  ·obtain ⟨b, vs, e, rfl, h2⟩ := hin
   refine ⟨?_, fun j oe hj => by cases hj⟩
   show _ = Value.pointer (some ⟨bxE us (boxA s), off, none⟩)
   simp [bxE, Zgb, hu]
 ·obtain ⟨i, off, m, cs, own, rfl, hq, rfl⟩ := Zk2 args 0 d x hd
  rw [Nat.zero_add] at *
  obtain ⟨u, hu, b, vs, e, rfl, h2, h3, h4, h5, h6⟩ := hin.get i _ hq
  rw [Nat.zero_add] at h2 h6
  have hbx : bxE us (boxA i) = b := by simp [bxE, Zgb, hu]
  have hlim : (boxQ m cs own).lim = m := by cases m <;> rfl
  refine ⟨by show X (bxE us (boxA i)) = _; rw [hbx, hlim]; exact h3, by show (lab (bxE us (boxA i))).bind _ = _; rw [hbx, h2]; rfl, ?_⟩
  cases m with
  | succ m => exact ⟨vs, e, by show w.heap[bxE us (boxA i)]? = _; rw [hbx]; exact h4, h5⟩
  | zero =>
   refine ⟨vs, e, by show w.heap[bxE us (boxA i)]? = _; rw [hbx]; exact h4, h5, fun j oe hj => ?_⟩
   obtain ⟨hw, c, F, hc, hrs, hl⟩ := h6 j oe hj
   refine ⟨c, by simpa using hc, Zv4 hw ?_ hrs (fun b hb => by simp [ghoE, hl b hb, labE, hq])⟩
   show ((Zka w.heap[bxE us (boxA i)]?)[j]?).getD undef = c
   rw [hbx, h4]
   simp only [Zka, hc, Option.getD_some]
 ·obtain ⟨k, x, e, hq⟩ := Zk0 args 0 i own hi
  rw [Nat.zero_add] at e
  subst e
  obtain ⟨u, hu, hr, he⟩ := hin.get i _ hq
  rw [Nat.zero_add] at he
  obtain ⟨hw, c, F, hc, hrs, hl⟩ := he j oe hj
  have hpv : (envE P n X lab us w gt).pv0 i j = c := by simp [envE, pvE, hu, hc]
  rw [hpv]
  exact Zv4 hw (by simp [ghoE, pvE, hu, hc]) hrs (fun b hb => by simp [ghoE, hl b hb, labE, hq])
end Go.Bv

namespace Go.Bv
open Go.RowKit
variable {E : Env} {P : Program} {w w' : World} {st : St} {a : Act} {G : Gho}
def insO (j : Nat) (x : OE) : OwnL → OwnL
 | [] => [(j, x)]
 | (k, y) :: l => match Nat.ble j k with | true => (j, x) :: (k, y) :: l | false => (k, y) :: insO j x l
theorem Zs9 {j k : Nat} {x y : OE} : ∀ {l : OwnL}, (k, y) ∈ insO j x l → (k, y) = (j, x) ∨ (k, y) ∈ l
 | [], h => by simpa [insO] using h
 | (i, z) :: l, h => by
  simp only [insO] at h
  split at h
  ·rcases List.mem_cons.1 h with h | h
   ·exact .inl h
   ·exact .inr h
  ·rcases List.mem_cons.1 h with h | h
   ·exact .inr (by rw [h]; exact List.mem_cons_self)
   ·rcases Zs9 h with h | h
    ·exact .inl h
    ·exact .inr (List.mem_cons_of_mem _ h)
def Zdg : OwnL → OwnL
 | [] => []
 | (j, x) :: l => match x.owner with | true => insO j x (Zdg l) | false => Zdg l
theorem Z75 {j : Nat} {oe : OE} : ∀ {own : OwnL}, (j, oe) ∈ Zdg own → (j, oe) ∈ own ∧ oe.owner = true
 | [], h => by cases h
 | (k, x) :: l, h => by
  simp only [Zdg] at h
  split at h
  ·rename_i hx
   rcases Zs9 h with e | h
   ·cases e; exact ⟨by simp, hx⟩
   ·obtain ⟨h1, h2⟩ := Z75 h; exact ⟨by simp [h1], h2⟩
  ·obtain ⟨h1, h2⟩ := Z75 h; exact ⟨by simp [h1], h2⟩
def noO : OwnL → Bool
 | [] => true
 | _ => false
theorem Zvg {own : OwnL} (h : noO own = true) : own = [] := by cases own with | nil => rfl | cons q l => cases h
abbrev RP := Option Nat × Option (Nat × Nat × Nat)
def resV (P : Program) (st : St) : ResultVar → Option (AV × OwnL × RP)
 | .tmp t => match lk st.t t with
  | some (.v a, own) => some (a, Zdg own, some t, none)
  | _ => none
 | .cell t T => match Zdi P T, Z4x P T, lk st.t t with
  | some ag, some s, some (.ptr k off, _) => match lk st.b k with
   | some (.cells cs own) => match fitB ag off s cs.length, Z7p ag ((cs.drop off).take s) with
    | true, some v => match noO (Zdg (cutO off s own)), Nat.blt k 1000000 with
     | true, _ => some (v, [], none, none)
     | false, true => some (v, Zdg (cutO off s own), none, some (k, off, s))
     | false, false => none
    | _, _ => none
   | _ => none
  | _, _, _ => none
def Zwb (t : Option Nat) (off : Nat) (ts : List (Nat × Nat)) : Option (List (Nat × Nat)) :=
 match t with
 | none => some ts
 | some t => match lk ts t with | none => some ((t, off) :: ts) | some _ => none
abbrev KB := Option (Nat × Option (Nat × Nat × Nat))
def Zi5 (x : Option (Nat × Nat × Nat)) (off : Nat) (kb : KB) : Option KB :=
 match x, kb with
 | none, kb => some kb
 | some (k, o, s), none => some (some (k, some (o, s, off)))
 | some _, some _ => none
def Zj1 (P : Program) (st : St) : Nat → List ResultVar → Option (List AV × OwnL × List (Nat × Nat) × KB)
 | _, [] => some ([], [], [], none)
 | off, rv :: rs => match resV P st rv with
  | some (a, own, t, x) => match Zj1 P st (off + a.cells.length) rs with
   | some (as, o', ts, kb) => match a.solid || (noO own && noO o'), Zwb t off ts, Zi5 x off kb with
    | true, some ts', some kb' => some (a :: as, Ziv off own ++ o', ts', kb')
    | _, _, _ => none
   | none => none
  | none => none
def Zqe (P : Program) (st : St) (t : Nat) (T : TypeId) : Option (AD × List (Nat × Nat) × KB) :=
 match Zdi P T, Z4x P T, lk st.t t with
 | some ag, some s, some (.ptr k off, _) => match Nat.blt k 1000000, lk st.b k with
  | true, some (.cells cs own) => match fitB ag off s cs.length, Z7p ag ((cs.drop off).take s) with
   | true, some v => match v.solid with
    | true => some (.v v (Zdg (cutO off s own)), [], some (k, some (off, s, 0)))
    | false => none
   | _, _ => none
  | _, _ => none
 | _, _, _ => none
def Zt5 (P : Program) (st : St) (rs : List ResultVar) : Option (AD × List (Nat × Nat) × KB) :=
 match rs with
 | [.tmp t] => match lk st.t t with
  | some (.ptr k 0, _) => match Nat.blt k 1000000, lk st.b k with
   | true, some (.cells cs own) => some (.p cs (Zdg own), [], some (k, none))
   | true, some (.part m cs) => some (.q 0 m cs [], [], some (k, none))
   | _, _ => none
  | _ => match resV P st (.tmp t) with
   | some (a, own, _, _) => some (.v a own, [(t, 0)], none)
   | none => none
 | [.cell t T] => Zqe P st t T
 | rs => match Zj1 P st 0 rs with
  | some (as, own, ts, kb) => some (.v (.tup as) own, ts, kb)
  | none => none
def Zfv (st : St) : Nat → List AD → Option (List (Nat × AD))
 | _, [] => some []
 | i, .v _ _ :: as => Zfv st (i + 1) as
 | i, .io _ _ :: as => match lk st.g i, Zfv st (i + 1) as with
  | some own, some r => some ((i, .v .undef (Zdg own)) :: r)
  | _, _ => none
 | i, .q off _ _ _ :: as => match lk st.b (boxA i), Zfv st (i + 1) as with
  | some (.cells cs own), some r => some ((i, .q off 0 cs (Zdg own)) :: r)
  | _, _ => none
def Zek (tmps : Array Value) (rv : ResultVar) : Sem Value :=
 match rv with
 | .tmp t => pure (tmps.getD t undef)
 | .cell t T => do loadVar T (← asAddr (tmps.getD t undef))
def Zll (x : RP) (j : Nat) : Option OP :=
 match x with
 | (some t, _) => some (.t t j)
 | (none, some (k, off, s)) => match Zb6 off s (off + j) with | true => some (.b k (off + j)) | false => none
 | (none, none) => none
theorem Zrr (hI : Inv E st.look a w G) {rv : ResultVar} {v : AV} {own : OwnL} {t : RP} (h : resV E.P st rv = some (v, own, t)) :
  ∃ u, (Zek a.tmps rv).run E.P w = .ok u w ∧ Rel G.X w v u ∧ ∀ j oe, (j, oe) ∈ own → oe.owner = true ∧ ∃ c F p, Zll t j = some p ∧ (Value.flat u)[j]? = some c ∧ Rs E.P G.X w oe c F ∧ ∀ b ∈ F, G.lab b = some (.own p) := by
 cases rv with
 | tmp t =>
  simp only [resV] at h
  split at h
  ·rename_i x own' ht
   cases h
   refine ⟨a.tmps.getD t undef, rfl, (hI.tm t _ _ ht).2.1, fun j oe hj => ?_⟩
   obtain ⟨h1, h2⟩ := Z75 hj
   obtain ⟨c, hc, ho⟩ := (hI.tm t _ _ ht).2.2 j oe h1
   obtain ⟨F, hF1, hF2⟩ := Zft ho h2
   exact ⟨h2, c, F, .t t j, rfl, hc, hF1, hF2⟩
  ·cases h
 | cell t T =>
  simp only [resV] at h
  split at h
  ·rename_i ag s k off own' hag hs ht
   have hu : a.tmps.getD t undef = .pointer (some ⟨G.bx k, off, none⟩) := (hI.tm t _ _ ht).2.1
   split at h
   ·rename_i cs ownb hb
    split at h
    ·rename_i v' hfit hv
     unfold fitB at hfit
     simp only [Bool.and_eq_true, Bool.or_eq_true, Nat.ble_eq] at hfit
     obtain ⟨hf1, hf2⟩ := hfit
     replace hf2 : ag = true ∨ s = 1 := hf2.imp id Nat.eq_of_beq_eq_true
     obtain ⟨hX0, _, us, e, hheap, hok⟩ := hI.bo k _ hb
     have hrel := hok.rel
     have hlen := hrel.length
     have hrel2 : RelL G.X w ((cs.drop off).take s) ((us.toList.drop off).take s) := (hrel.drop off).take s
     have hl2 : ((us.toList.drop off).take s).length = s := by rw [List.length_take, List.length_drop, hlen]; omega
     have hc2 : Z8c w (G.bx k) off ((us.toList.drop off).take s) := by
      intro j u hj
      rw [List.getElem?_take] at hj
      split at hj
      ·rw [List.getElem?_drop] at hj
       rw [Z4u hheap]; simpa using hj
      ·cases hj
     obtain ⟨u, hrun, hu2⟩ := Z6w (P := E.P) hag hs hl2 hc2 hf2
     split at h
     ·cases h
      exact ⟨u, by simp [Zek, hu, asAddr, hrun], Z60 hv hrel2 hu2, fun j oe hj => by cases hj⟩
     ·cases h
      refine ⟨u, by simp [Zek, hu, asAddr, hrun], Z60 hv hrel2 hu2, fun j oe hj => ?_⟩
      obtain ⟨q1, q2⟩ := Z75 hj
      obtain ⟨q3, q4⟩ := Z7r q1
      obtain ⟨c, hc, ho⟩ := hok.own _ oe q3
      obtain ⟨F, hF1, hF2⟩ := Zft ho q2
      have hc' : ((us.toList.drop off).take s)[j]? = some c := by
       rw [List.getElem?_take, if_pos q4, List.getElem?_drop]; simpa using hc
      have hsl : ag = true ∨ ∃ A l k, c = .slice A l k := .inr (Z55 ho q2)
      have hr : Zb6 off s (off + j) = true := by simp [Zb6, q4]
      exact ⟨q2, c, F, .b k (off + j), by simp [Zll, hr], Zah hu2 hc' hsl, hF1, hF2⟩
     ·cases h
    ·cases h
   ·cases h
  ·cases h
def Zqr (kb : KB) (k j : Nat) : Option (Option (Nat × Nat)) :=
 match kb with
 | none => none
 | some (k', x) => match Nat.beq k' k with
  | false => none
  | true => match x with
   | none => some (some (0, j + 1))
   | some (off, s, sh) => match Zb6 off s j with | true => some (some (0, sh + (j - off) + 1)) | false => some none
def Zvp (kb : KB) (k : Nat) : Option (Option (Nat × Nat)) :=
 match kb with
 | none => none
 | some (k', x) => match Nat.beq k' k with
  | false => none
  | true => match x with
   | none => some (some (0, 0))
   | some _ => some none
def labR (ts : List (Nat × Nat)) (kb : KB) : LP → Option (Nat × Nat)
 | .own (.t s j) => (lk ts s).map fun off => (0, off + j + 1)
 | .own (.b k j) => match Zqr kb k j with | some r => r | none => if 1000000 ≤ k then some (k - 1000000 + 1, j + 1) else none
 | .box k => match Zvp kb k with | some r => r | none => if 1000000 ≤ k then some (k - 1000000 + 1, 0) else none
 | .own (.a i j) => some (i + 1, j + 1)
 | _ => none
theorem Zvm {t : Option Nat} {x : Option (Nat × Nat × Nat)} {off : Nat} {ts ts' : List (Nat × Nat)} {kb kb' : KB} (h1 : Zwb t off ts = some ts') (h2 : Zi5 x off kb = some kb') {p : OP} {j : Nat} (hp : ∀ k i, p = .b k i → k < 1000000)
  (h : labR ts kb (.own p) = some (0, j + 1)) : labR ts' kb' (.own p) = some (0, j + 1) := by
 cases p with
 | t s k =>
  simp only [labR] at h ⊢
  cases t with
  | none => simp only [Zwb] at h1; cases h1; exact h
  | some t =>
   simp only [Zwb] at h1
   split at h1
   ·rename_i hn
    cases h1
    simp only [lk]
    cases hb : Nat.beq t s with
    | true => have := Z3o hb; subst this; rw [hn] at h; cases h
    | false => exact h
   ·cases h1
 | b k i =>
  have hlt := hp k i rfl
  simp only [labR] at h ⊢
  cases x with
  | none => simp only [Zi5] at h2; cases h2; exact h
  | some x =>
   cases kb with
   | none => simp only [Zqr] at h; rw [if_neg (by omega)] at h; cases h
   | some q => obtain ⟨a, b, c⟩ := x; simp only [Zi5] at h2; cases h2
 | a i k => simp only [labR] at h; simp only [labR]; exact h
theorem Zo2 (hI : Inv E st.look a w G) : ∀ (rs : List ResultVar) (off : Nat) (as : List AV) (own : OwnL) (ts : List (Nat × Nat)) (kb : KB), Zj1 E.P st off rs = some (as, own, ts, kb) →
  ∃ us : List Value, (rs.mapM (Zek a.tmps) : Sem (List Value)).run E.P w = .ok us w ∧ RelL G.X w as us ∧ (∀ k x, kb = some (k, x) → k < 1000000) ∧
   ∀ j oe, (j, oe) ∈ own → oe.owner = true ∧ ∃ i c F p, j = off + i ∧ (us.flatMap fun v => v.cells.toList)[i]? = some c ∧ Rs E.P G.X w oe c F ∧ (∀ k i, p = .b k i → k < 1000000) ∧ labR ts kb (.own p) = some (0, j + 1) ∧ ∀ b ∈ F, G.lab b = some (.own p)
 | [], off, as, own, ts, kb, h => by
  simp only [Zj1] at h; cases h
  exact ⟨[], rfl, rfl, (fun k x e => by cases e), fun j oe hj => by cases hj⟩
 | rv :: rs, off, as, own, ts, kb, h => by
  simp only [Zj1] at h
  split at h
  ·rename_i v o1 t x h1
   split at h
   ·rename_i as' o' ts' kb' h2
    split at h
    ·rename_i ts2 kb2 hs ht hk
     cases h
     obtain ⟨u, hr, hrel, ho1⟩ := Zrr hI h1
     obtain ⟨us, hrs, hrels, hkb, ho2⟩ := Zo2 hI rs _ _ _ _ _ h2
     have hxlt : ∀ k o s, x = some (k, o, s) → k < 1000000 := by
      intro k o s e
      subst e
      cases rv with
      | tmp t => simp only [resV] at h1; split at h1 <;> cases h1
      | cell t T =>
       simp only [resV] at h1
       split at h1
       ·split at h1
        ·split at h1
         ·split at h1
          ·cases h1
          ·rename_i hlt; cases h1; exact Z4a hlt
          ·cases h1
         ·cases h1
        ·cases h1
       ·cases h1
     have hlt2 : ∀ k y, kb = some (k, y) → k < 1000000 := by
      intro k y e
      cases x with
      | none => simp only [Zi5] at hk; cases hk; exact hkb k y e
      | some x =>
       obtain ⟨k', o, s⟩ := x
       cases kb' with
       | none => simp only [Zi5] at hk; cases hk; cases e; exact hxlt _ _ _ rfl
       | some q => simp only [Zi5] at hk; cases hk
     refine ⟨u :: us, ?_, ⟨u, us, rfl, hrel, hrels⟩, hlt2, fun j oe hj => ?_⟩
     ·simp only [List.mapM_cons, Sem.run_bind, hr, Result.andThen_ok, hrs, Sem.run_pure]
     ·rcases List.mem_append.1 hj with hj | hj
      ·obtain ⟨i, rfl, hi⟩ := Ze6 hj
       have hsol : v.solid = true := by
        cases hv : v.solid with
        | true => rfl
        | false =>
         rw [hv] at hs
         simp only [Bool.false_or, Bool.and_eq_true] at hs
         rw [Zvg hs.1] at hi; cases hi
       obtain ⟨hw, c, F, p, hp, hc, hr1, hr2⟩ := ho1 i oe hi
       have hfl : Value.flat u = u.cells.toList := Z4j (Z3p hrel hsol)
       rw [hfl] at hc
       have hcc : (((u :: us).flatMap fun v => v.cells.toList)[i]?) = some c := by
        rw [List.flatMap_cons, List.getElem?_append_left (List.getElem?_eq_some_iff.1 hc).1]; exact hc
       cases t with
       | some t =>
        simp only [Zll] at hp; cases hp
        refine ⟨hw, i, c, F, _, rfl, hcc, hr1, (fun k i e => by cases e), ?_, hr2⟩
        simp only [Zwb] at ht
        split at ht
        ·cases ht; simp [labR, lk]
        ·cases ht
       | none =>
        cases x with
        | none => simp only [Zll] at hp; cases hp
        | some x =>
         obtain ⟨k, o, s⟩ := x
         simp only [Zll] at hp
         split at hp
         ·rename_i hin
          cases hp
          refine ⟨hw, i, c, F, _, rfl, hcc, hr1, (fun k i e => by cases e; exact hxlt _ _ _ rfl), ?_, hr2⟩
          cases kb' with
          | none => simp only [Zi5] at hk; cases hk; simp [labR, Zqr, hin]
          | some q => simp only [Zi5] at hk; cases hk
         ·cases hp
      ·have hsol : v.solid = true := by
        cases hv : v.solid with
        | true => rfl
        | false =>
         rw [hv] at hs
         simp only [Bool.false_or, Bool.and_eq_true] at hs
         rw [Zvg hs.2] at hj; cases hj
       obtain ⟨hw, i, c, F, p, rfl, hc, hr1, hp, hl, hr2⟩ := ho2 j oe hj
       have hlen : u.cells.toList.length = v.cells.length := (Z2t hrel hsol).length
       refine ⟨hw, v.cells.length + i, c, F, p, by omega, ?_, hr1, hp, Zvm ht hk hp hl, hr2⟩
       rw [List.flatMap_cons, List.getElem?_append_right (by omega), hlen, Nat.add_sub_cancel_left]; exact hc
    ·cases h
   ·cases h
  ·cases h
theorem Ziz {fn : Func} {tmps : Array Value} {us : List Value} (h : (fn.results.toList.mapM (Zek tmps) : Sem (List Value)).run P w = .ok us w) :
  (results fn tmps).run P w = .ok (if h : us.length = 1 then us[0] else .tuple us.toArray) w := by
 have hm : (fn.results.mapM (Zek tmps)).run P w = .ok us.toArray w := by
  rw [Array.mapM_eq_mapM_toList]
  simp only [Sem.run_map, h, Result.andThen_ok]
 have he : results fn tmps = (do let vs ← fn.results.mapM (Zek tmps); pure (if h : vs.size = 1 then vs[0] else .tuple vs)) := rfl
 rw [he, Sem.run_bind, hm]
 simp
theorem Z12b {kb : KB} (hkb : ∀ k x, kb = some (k, x) → k < 1000000) {k : Nat} (hk : 1000000 ≤ k) : (∀ j, Zqr kb k j = none) ∧ Zvp kb k = none := by
 cases kb with
 | none => exact ⟨fun _ => rfl, rfl⟩
 | some p =>
  obtain ⟨k', x⟩ := p
  have := hkb k' x rfl
  have hb : Nat.beq k' k = false := by
   cases h : Nat.beq k' k with
   | false => rfl
   | true => have := Z3o h; omega
  simp [Zqr, Zvp, hb]
def labX (G : Gho) (ts : List (Nat × Nat)) (kb : KB) : Lab := fun b => (G.lab b).bind (labR ts kb)
theorem Zfu {X : Gh} {lab : Lab} {us : List Value} {w0 : World} {n : Nat} {gt : GT P w0 (fun b => ∃ q, lab b = some q)} {ts : List (Nat × Nat)} {kb : KB} (hkb : ∀ k x, kb = some (k, x) → k < 1000000) (hI : Inv (envE P n X lab us w0 gt) st.look a w G) :
  ∀ (args : List AD) (i : Nat) (outs : List (Nat × AD)), Zfv st i args = some outs → (∀ j q, args[j]? = some q → ∃ u, us[i + j]? = some u ∧ AIn P X w0 lab (i + j) q u) →
   ∀ k q, (k, q) ∈ outs → ∃ v, us[k]? = some v ∧ AIn P G.X w (labX G ts kb) (k + 1) q v
 | [], i, outs, h, _, k, q, hm => by simp only [Zfv] at h; cases h; cases hm
 | .v x own :: args, i, outs, h, hin, k, q, hm => by
  exact Zfu hkb hI args (i + 1) outs h (fun j q hj => by
   obtain ⟨u, h1, h2⟩ := hin (j + 1) q (by simpa using hj)
   exact ⟨u, by rw [show i + 1 + j = i + (j + 1) by omega]; exact h1, by rw [show i + 1 + j = i + (j + 1) by omega]; exact h2⟩) k q hm
 | .io x own :: args, i, outs, h, hin, k, q, hm => by
  simp only [Zfv] at h
  split at h
  ·rename_i own' r hg hr
   cases h
   rcases List.mem_cons.1 hm with e | hm
   ·cases e
    obtain ⟨u, hu, _⟩ := hin 0 _ rfl
    refine ⟨u, hu, trivial, fun j oe hj => ?_⟩
    obtain ⟨h1, h2⟩ := Z75 hj
    have ho := hI.gr i own' hg j oe h1
    obtain ⟨F, hF1, hF2⟩ := Zft ho h2
    obtain ⟨A, l, cp, hsl⟩ := Z55 ho h2
    have hc : (Value.flat u)[j]? = some ((envE P n X lab us w0 gt).pv0 i j) := by
     have hu' : us[i]? = some u := hu
     have e : (envE P n X lab us w0 gt).pv0 i j = ((Value.flat u)[j]?).getD undef := by simp [envE, pvE, hu']
     rw [e] at hsl ⊢
     cases hf : (Value.flat u)[j]? with
     | some c => rfl
     | none => rw [hf] at hsl; cases hsl
    refine ⟨h2, _, F, hc, hF1, fun b hb => ?_⟩
    simp [labX, hF2 b hb, labR]
   ·exact Zfu hkb hI args (i + 1) r hr (fun j q hj => by
     obtain ⟨u, h1, h2⟩ := hin (j + 1) q (by simpa using hj)
     exact ⟨u, by rw [show i + 1 + j = i + (j + 1) by omega]; exact h1, by rw [show i + 1 + j = i + (j + 1) by omega]; exact h2⟩) k q hm
  ·cases h
 | .q off m cs own :: args, i, outs, h, hin, k, q, hm => by
  simp only [Zfv] at h
  split at h
  ·rename_i cs' own' r hg hr
   cases h
   rcases List.mem_cons.1 hm with e | hm
   ·cases e
    obtain ⟨u, hu, b, vs0, e0, rfl, _⟩ := hin 0 _ rfl
    have hu' : us[i]? = some (.pointer (some ⟨b, off, none⟩)) := hu
    have hbx : G.bx (boxA i) = b := by
     rw [hI.pin.2.2 (boxA i) (by unfold boxA; omega)]
     show bxE us (boxA i) = b
     simp [bxE, Zgb, hu']
    obtain ⟨h1, h2, vs, e, h3, h4⟩ := hI.bo (boxA i) _ hg
    have hge : 1000000 ≤ boxA i := by unfold boxA; omega
    obtain ⟨hne, hne2⟩ := Z12b hkb hge
    rw [hbx] at h1 h2 h3
    refine ⟨_, hu, b, vs, e, rfl, ?_, h1, h3, h4.rel, fun j oe hj => ?_⟩
    ·simp [labX, h2, labR, hne2, hge, Zgb]
    ·obtain ⟨q1, q2⟩ := Z75 hj
     obtain ⟨c, hc, ho⟩ := h4.own j oe q1
     obtain ⟨F, hF1, hF2⟩ := Zft ho q2
     exact ⟨q2, c, F, by simpa using hc, hF1, fun b hb => by simp [labX, hF2 b hb, labR, hne, hge, Zgb]⟩
   ·exact Zfu hkb hI args (i + 1) r hr (fun j q hj => by
     obtain ⟨u, h1, h2⟩ := hin (j + 1) q (by simpa using hj)
     exact ⟨u, by rw [show i + 1 + j = i + (j + 1) by omega]; exact h1, by rw [show i + 1 + j = i + (j + 1) by omega]; exact h2⟩) k q hm
  ·cases h
theorem Z108 {rv : ResultVar} {v : AV} {own : OwnL} {t : Option Nat} {k o s : Nat} (h1 : resV P st rv = some (v, own, t, some (k, o, s))) : k < 1000000 := by
 cases rv with
 | tmp t => simp only [resV] at h1; split at h1 <;> cases h1
 | cell t T =>
  simp only [resV] at h1
  split at h1
  ·split at h1
   ·split at h1
    ·split at h1
     ·cases h1
     ·rename_i hlt; cases h1; exact Z4a hlt
     ·cases h1
    ·cases h1
   ·cases h1
  ·cases h1
theorem Zru : ∀ (rs : List ResultVar) (off : Nat) {as : List AV} {own : OwnL} {ts : List (Nat × Nat)} {kb : KB}, Zj1 P st off rs = some (as, own, ts, kb) → ∀ k x, kb = some (k, x) → k < 1000000
 | [], off, as, own, ts, kb, h => by simp only [Zj1] at h; cases h; intro k x e; cases e
 | rv :: rs, off, as, own, ts, kb, h => by
  simp only [Zj1] at h
  split at h
  ·rename_i v o1 t x h1
   split at h
   ·rename_i as' o' ts' kb' h2
    split at h
    ·rename_i ts2 kb2 hs ht hk
     cases h
     intro k y e
     cases x with
     | none => simp only [Zi5] at hk; cases hk; exact Zru rs _ h2 k y e
     | some x =>
      obtain ⟨k', o, s⟩ := x
      cases kb' with
      | none => simp only [Zi5] at hk; cases hk; cases e; exact Z108 h1
      | some q => simp only [Zi5] at hk; cases hk
    ·cases h
   ·cases h
  ·cases h
theorem Zxw {rs : List ResultVar} {r : AD} {ts : List (Nat × Nat)} {kb : KB} (h : Zt5 P st rs = some (r, ts, kb)) : ∀ k x, kb = some (k, x) → k < 1000000 := by
 unfold Zt5 at h
 split at h
 ·split at h
  ·split at h
   ·rename_i hlt _; cases h; intro k x e; cases e; exact Z4a hlt
   ·rename_i hlt _; cases h; intro k x e; cases e; exact Z4a hlt
   ·cases h
  ·split at h
   ·cases h; intro k x e; cases e
   ·cases h
 ·unfold Zqe at h
  split at h
  ·split at h
   ·rename_i hlt _
    split at h
    ·split at h
     ·cases h; intro k x e; cases e; exact Z4a hlt
     ·cases h
    ·cases h
   ·cases h
  ·cases h
 ·rename_i rs _ _
  split at h
  ·rename_i as own ts' kb' hv
   cases h
   intro k x e
   exact Zru _ _ hv k x e
  ·cases h
theorem Zur (hI : Inv E st.look a w G) {fn : Func} {r : AD} {ts : List (Nat × Nat)} {kb : KB} (h : Zt5 E.P st fn.results.toList = some (r, ts, kb)) :
  ∃ u, (results fn a.tmps).run E.P w = .ok u w ∧ AIn E.P G.X w (labX G ts kb) 0 r u := by
 have single : ∀ {rv : ResultVar} {u : Value}, fn.results.toList = [rv] → (Zek a.tmps rv).run E.P w = .ok u w → (results fn a.tmps).run E.P w = .ok u w := by
  intro rv u hrv hr
  have hl : (fn.results.toList.mapM (Zek a.tmps) : Sem (List Value)).run E.P w = .ok [u] w := by
   rw [hrv]
   simp only [List.mapM_cons, List.mapM_nil, Sem.run_bind, hr, Result.andThen_ok, Sem.run_pure]
  rw [Ziz hl]; rfl
 generalize hrs : fn.results.toList = rs at h
 unfold Zt5 at h
 split at h
 ·rename_i t
  split at h
  ·rename_i k own' ht
   split at h
   ·rename_i cs own hlt hb
    cases h
    refine ⟨_, single hrs rfl, ?_⟩
    have hu : a.tmps.getD t undef = .pointer (some ⟨G.bx k, 0, none⟩) := (hI.tm t _ _ ht).2.1
    obtain ⟨h1, h2, vs, e, h3, h4⟩ := hI.bo k _ hb
    refine ⟨G.bx k, vs, e, hu, by simp [labX, h2, labR, Zvp], h1, h3, h4.rel, fun j oe hj => ?_⟩
    obtain ⟨q1, q2⟩ := Z75 hj
    obtain ⟨c, hc, ho⟩ := h4.own j oe q1
    obtain ⟨F, hF1, hF2⟩ := Zft ho q2
    exact ⟨q2, c, F, by simpa using hc, hF1, fun b hb => by simp [labX, hF2 b hb, labR, Zqr]⟩
   ·rename_i m cs hlt hb
    cases h
    refine ⟨_, single hrs rfl, ?_⟩
    have hu : a.tmps.getD t undef = .pointer (some ⟨G.bx k, 0, none⟩) := (hI.tm t _ _ ht).2.1
    obtain ⟨h1, h2, vs, e, h3, h4⟩ := hI.bo k _ hb
    exact ⟨G.bx k, vs, e, hu, by simp [labX, h2, labR, Zvp], h1, h3, h4, fun j oe hj => by cases hj⟩
   ·cases h
  ·split at h
   ·rename_i v own t' x' hv
    cases h
    obtain ⟨u, hr, hrel, ho⟩ := Zrr hI hv
    refine ⟨u, single hrs hr, hrel, fun j oe hj => ?_⟩
    obtain ⟨hw, c, F, p, e1, hc, hr1, hr2⟩ := ho j oe hj
    have : p = .t t j := by
     simp only [resV] at hv
     split at hv
     ·cases hv; simp only [Zll] at e1; cases e1; rfl
     ·cases hv
    subst this
    exact ⟨hw, c, F, hc, hr1, fun b hb => by simp [labX, hr2 b hb, labR, lk]⟩
   ·cases h
 ·rename_i t T
  unfold Zqe at h
  split at h
  ·rename_i ag s k off own' hag hs ht
   have hu : a.tmps.getD t undef = .pointer (some ⟨G.bx k, off, none⟩) := (hI.tm t _ _ ht).2.1
   split at h
   ·rename_i cs ownb hlt hb
    split at h
    ·rename_i v hfit hv
     split at h
     ·rename_i hsol
      cases h
      unfold fitB at hfit
      simp only [Bool.and_eq_true, Bool.or_eq_true, Nat.ble_eq] at hfit
      obtain ⟨hf1, hf2⟩ := hfit
      replace hf2 : ag = true ∨ s = 1 := hf2.imp id Nat.eq_of_beq_eq_true
      obtain ⟨hX0, _, us, e, hheap, hok⟩ := hI.bo k _ hb
      have hrel := hok.rel
      have hlen := hrel.length
      have hrel2 : RelL G.X w ((cs.drop off).take s) ((us.toList.drop off).take s) := (hrel.drop off).take s
      have hl2 : ((us.toList.drop off).take s).length = s := by rw [List.length_take, List.length_drop, hlen]; omega
      have hc2 : Z8c w (G.bx k) off ((us.toList.drop off).take s) := by
       intro j u hj
       rw [List.getElem?_take] at hj
       split at hj
       ·rw [List.getElem?_drop] at hj
        rw [Z4u hheap]; simpa using hj
       ·cases hj
      obtain ⟨u, hrun, hu2⟩ := Z6w (P := E.P) hag hs hl2 hc2 hf2
      have hrelv := Z60 hv hrel2 hu2
      refine ⟨u, single hrs (by simp [Zek, hu, asAddr, hrun]), hrelv, fun j oe hj => ?_⟩
      obtain ⟨q1, q2⟩ := Z75 hj
      obtain ⟨q3, q4⟩ := Z7r q1
      obtain ⟨c, hc, ho⟩ := hok.own _ oe q3
      obtain ⟨F, hF1, hF2⟩ := Zft ho q2
      have hc' : ((us.toList.drop off).take s)[j]? = some c := by
       rw [List.getElem?_take, if_pos q4, List.getElem?_drop]; simpa using hc
      have hsl : ag = true ∨ ∃ A l k, c = .slice A l k := .inr (Z55 ho q2)
      refine ⟨q2, c, F, Zah hu2 hc' hsl, hF1, fun b hb => ?_⟩
      have hr : Zb6 off s (off + j) = true := by
       simp [Zb6, q4]
      simp [labX, hF2 b hb, labR, Zqr, hr]
     ·cases h
    ·cases h
   ·cases h
  ·cases h
 ·rename_i hn1 hn2
  split at h
  ·rename_i as own ts' kb' hv
   cases h
   obtain ⟨us', hr, hrels, _, ho⟩ := Zo2 hI _ _ _ _ _ _ hv
   have hlen1 : us'.length ≠ 1 := by
    intro e1
    have h1 := hrels.length
    have h2 : ∀ (rs : List ResultVar) (off : Nat) (as : List AV) (own : OwnL) (ts : List (Nat × Nat)) (kb : KB), Zj1 E.P st off rs = some (as, own, ts, kb) → as.length = rs.length := by
     intro rs
     induction rs with
     | nil => intro off as own ts kb h; simp only [Zj1] at h; cases h; rfl
     | cons rv rs ih =>
      intro off as own ts kb h
      simp only [Zj1] at h
      split at h
      ·split at h
       ·split at h
        ·cases h; simp [ih _ _ _ _ _ ‹_›]
        ·cases h
       ·cases h
      ·cases h
    have h3 := h2 _ _ _ _ _ _ hv
    have : rs.length = 1 := by omega
    obtain ⟨rv, e⟩ := List.length_eq_one_iff.1 this
    cases rv with
    | tmp t => exact hn1 t e
    | cell t T => exact hn2 t T e
   refine ⟨.tuple us'.toArray, by rw [Ziz (hrs ▸ hr), dif_neg hlen1], ⟨us', rfl, hrels⟩, fun j oe hj => ?_⟩
   obtain ⟨hw, i, c, F, p, e1, hc, hr1, _, hl, hr2⟩ := ho j oe hj
   rw [Nat.zero_add] at e1
   subst e1
   exact ⟨hw, c, F, hc, hr1, fun b hb => by simp only [labX, hr2 b hb, Option.bind_some]; exact hl⟩
  ·cases h
theorem FnO.of {f : Nat} {fn : Func} {c : Code} (hf : P.funcs[f]? = some fn) (hb : fn.body = some c) {args : List AD} {r : AD} {outs : List (Nat × AD)} (hlen : args.length ≤ fn.ntmps) (hn : fn.ntmps ≤ 1000000)
  (h : ∀ w0 X0 Fin pv0 pb gt, Wc ⟨P, w0, X0, Fin, pv0, pb, fn.ntmps, gt⟩ c (Z110 args) (fun e st => (e = .ret ∨ e = .normal) ∧ (Zt5 P st fn.results.toList).map Prod.fst = some r ∧ Zfv st 0 args = some outs)) : FnO P f args r outs := by
 intro X w us lab hin hX hgt
 refine calls_of_wp hf hb ?_
 have hI0 := Zvs (gt := hgt) hlen hn hin hX
 refine h w X (fun b => ∃ q, lab b = some q) (fun i j => pvE us w (.a i j)) (bxE us) hgt _ w ⟨_, hI0⟩ _ ?_
 rintro e st' a' w' ⟨he, hres, hout⟩ ⟨G, hI⟩
 have main : a'.defers = [] ∧ ∃ v, (results fn a'.tmps).run P w' = .ok v w' ∧ ∃ (u : Value) (X' : Gh) (lab' : Lab), Ending.returned v = .returned u ∧ Fr (fun b => ∃ q, lab b = some q) w w' ∧ (∀ b, b < w.heap.size → lab b = none → X' b = X b ∧ lab' b = none) ∧
   (∀ b, w'.heap.size ≤ b → X' b = none ∧ lab' b = none) ∧ AIn P X' w' lab' 0 r u ∧ ∀ i q, (i, q) ∈ outs → ∃ v, us[i]? = some v ∧ AIn P X' w' lab' (i + 1) q v := by
  refine ⟨hI.dfr, ?_⟩
  simp only [Option.map_eq_some_iff] at hres
  obtain ⟨⟨r', ts, kb⟩, hres, e1⟩ := hres
  simp only at e1
  subst e1
  obtain ⟨u, hr, hin'⟩ := Zur hI hres
  refine ⟨u, hr, u, G.X, labX G ts kb, rfl, hI.fr, fun b hb hl => ?_, fun b hb => ?_, hin', ?_⟩
  ·have hnf : ¬ ∃ q, lab b = some q := by rintro ⟨q, hq⟩; rw [hl] at hq; cases hq
   refine ⟨hI.old b hb hnf, ?_⟩
   simp only [labX]
   cases hg : G.lab b with
   | none => rfl
   | some p =>
    rcases hI.may b p hg with h1 | h1
    ·exact absurd hb (Nat.not_lt_of_le h1)
    ·exact absurd h1 hnf
  ·obtain ⟨h1, h2⟩ := hI.new b hb
   exact ⟨h1, by simp [labX, h2]⟩
  ·exact Zfu (Zxw hres) hI args 0 outs hout (fun j q hj => by obtain ⟨u, h1, h2⟩ := hin.get j q hj; exact ⟨u, by rw [Nat.zero_add]; exact h1, h2⟩)
 rcases he with rfl | rfl
 ·obtain ⟨h1, v, h2, h3⟩ := main; exact ⟨h1, v, h2, h3⟩
 ·obtain ⟨h1, v, h2, h3⟩ := main; exact ⟨h1, v, h2, h3⟩
end Go.Bv

namespace Go.Bv
open Go.RowKit
inductive Key where
 | t (s : Nat)
 | b (d : Nat)
 | g (d : Nat)
inductive Ent where
 | t (e : SV × OwnL)
 | b (e : BX)
 | g (e : OwnL)
def Key.eqb : Key → Key → Bool
 | .t x, .t y => Nat.beq x y
 | .b x, .b y => Nat.beq x y
 | .g x, .g y => Nat.beq x y
 | _, _ => false
theorem Key.eqb_iff {x y : Key} : x.eqb y = true ↔ x = y := by
 cases x <;> cases y <;> simp [Key.eqb]
def Key.fits : Key → Ent → Prop
 | .t _, .t _ | .b _, .b _ | .g _, .g _ => True
 | _, _ => False
def Look.get (L : Look) : Key → Option Ent
 | .t s => (L.t s).map .t
 | .b s => (L.b s).map .b
 | .g s => (L.g s).map .g
def Look.ofGet (g : Key → Option Ent) : Look where
 t s := match g (.t s) with | some (.t e) => some e | _ => none
 b s := match g (.b s) with | some (.b e) => some e | _ => none
 g s := match g (.g s) with | some (.g e) => some e | _ => none
theorem Look.get_ofGet {g : Key → Option Ent} (h : ∀ κ e, g κ = some e → κ.fits e) (κ : Key) : (Look.ofGet g).get κ = g κ := by
 have := h κ
 cases κ with
 | t s => simp only [Look.get, Look.ofGet]; cases hg : g (.t s) with | none => rfl | some e => have := this e hg; cases e <;> simp_all [Key.fits]
 | b s => simp only [Look.get, Look.ofGet]; cases hg : g (.b s) with | none => rfl | some e => have := this e hg; cases e <;> simp_all [Key.fits]
 | g s => simp only [Look.get, Look.ofGet]; cases hg : g (.g s) with | none => rfl | some e => have := this e hg; cases e <;> simp_all [Key.fits]
theorem Look.get_fits {L : Look} {κ : Key} {e : Ent} (h : L.get κ = some e) : κ.fits e := by
 cases κ <;> simp only [Look.get, Option.map_eq_some_iff] at h <;> obtain ⟨x, _, rfl⟩ := h <;> trivial
theorem Zqo {α β : Type} {f : α → β} (hf : ∀ a b, f a = f b → a = b) : ∀ {x y : Option α}, x.map f = y.map f → x = y
 | none, none, _ => rfl
 | some a, some b, h => by simp at h; rw [hf a b h]
 | none, some b, h => by simp at h
 | some a, none, h => by simp at h
theorem Look.ext_get {L L' : Look} (h : ∀ κ, L.get κ = L'.get κ) : L = L' := by
 cases L with
 | mk t b q =>
  cases L' with
  | mk t' b' q' =>
   have h1 : t = t' := funext fun s => Zqo (fun _ _ e => by cases e; rfl) (h (.t s))
   have h2 : b = b' := funext fun s => Zqo (fun _ _ e => by cases e; rfl) (h (.b s))
   have h3 : q = q' := funext fun s => Zqo (fun _ _ e => by cases e; rfl) (h (.g s))
   rw [h1, h2, h3]
def Upd.ent : Upd → Option (Key × Ent)
 | .f _ => none
 | .t s e => some (.t s, .t e)
 | .b s e => some (.b s, .b e)
 | .g s e => some (.g s, .g e)
def wr : List Upd → Key → Option Ent
 | [], _ => none
 | u :: us, κ => match wr us κ with
  | some e => some e
  | none => match u.ent with
   | some (κ', e) => (match κ'.eqb κ with | true => some e | false => none)
   | none => none
theorem Zu8 : ∀ {us : List Upd} {κ : Key} {e : Ent}, wr us κ = some e → κ.fits e
 | [], κ, e, h => by cases h
 | u :: us, κ, e, h => by
  simp only [wr] at h
  split at h
  ·rename_i e' h1; cases h; exact Zu8 h1
  ·split at h
   ·rename_i κ' e' h2
    split at h
    ·rename_i hk
     cases h
     have := Key.eqb_iff.1 hk
     subst this
     cases u <;> simp only [Upd.ent] at h2 <;> cases h2 <;> trivial
    ·cases h
   ·cases h
theorem Zwv {α : Type} (s k : Nat) (x y : α) : (if k = s then x else y) = (match Nat.beq s k with | true => x | false => y) := by
 cases h : Nat.beq s k with
 | true => rw [if_pos (Z3o h).symm]
 | false => rw [if_neg (fun e => Z57 h e.symm)]
theorem Zjn {α β : Type} (f : α → β) (c : Bool) (x : α) (y : Option α) : (match c with | true => some x | false => y).map f = (match c with | true => some (f x) | false => y.map f) := by
 cases c <;> rfl
theorem Zvv {L : Look} {u : Upd} {κ' : Key} {e : Ent} (h : u.ent = some (κ', e)) (κ : Key) : (L.upd u).get κ = (match κ'.eqb κ with | true => some e | false => L.get κ) := by
 cases u with
 | f d => cases h
 | t s x => cases h; cases κ <;> simp only [Look.upd, Look.get, Key.eqb, Zwv, Zjn]
 | b s x => cases h; cases κ <;> simp only [Look.upd, Look.get, Key.eqb, Zwv, Zjn]
 | g s x => cases h; cases κ <;> simp only [Look.upd, Look.get, Key.eqb, Zwv, Zjn]
theorem Z134 {L : Look} {r : Ref} (h : NoRef r L) : L.upd (.f r) = L := by
 cases L with
 | mk t b g =>
  simp only [Look.upd]
  congr 1
  ·funext k
   cases ht : t k with
   | none => rfl
   | some e => have := h.t k e ht; simp [Z112, this]
  ·funext k
   cases ht : b k with
   | none => rfl
   | some e => have := h.b k e ht; simp [Z114, this]
  ·funext k
   cases ht : g k with
   | none => rfl
   | some e => have := h.g k e ht; simp [Z113, this]
def Ent.refs (r : Ref) : Ent → Bool
 | .t e => Zfl r e
 | .b e => Zi1 r e
 | .g e => Z4l r e
def fNot (e : Ent) : Upd → Bool
 | .f r => !e.refs r
 | _ => true
def fOk : List Upd → Bool
 | [] => true
 | u :: us => (match u.ent with | some (_, e) => us.all (fNot e) | none => true) && fOk us
theorem NoRef.of_get {r : Ref} {L : Look} (h : ∀ κ e, L.get κ = some e → e.refs r = false) : NoRef r L :=
 ⟨fun k e hk => h (.t k) (.t e) (by simp [Look.get, hk]), fun k e hk => h (.b k) (.b e) (by simp [Look.get, hk]), fun k e hk => h (.g k) (.g e) (by simp [Look.get, hk])⟩
theorem NoRef.get {r : Ref} {L : Look} (h : NoRef r L) {κ : Key} {e : Ent} (hk : L.get κ = some e) : e.refs r = false := by
 cases κ <;> simp only [Look.get, Option.map_eq_some_iff] at hk <;> obtain ⟨x, hx, rfl⟩ := hk
 ·exact h.t _ _ hx
 ·exact h.b _ _ hx
 ·exact h.g _ _ hx
theorem Zn9 : ∀ (us : List Upd) (L : Look), fOk us = true → (∀ r, Upd.f r ∈ us → NoRef r L) → ∀ κ, (L.upds us).get κ = (wr us κ).or (L.get κ)
 | [], L, _, _, κ => by simp [Look.upds, wr]
 | u :: us, L, h1, h2, κ => by
  show ((L.upd u).upds us).get κ = _
  simp only [fOk, Bool.and_eq_true] at h1
  have key : (∀ r, Upd.f r ∈ us → NoRef r (L.upd u)) → ((L.upd u).upds us).get κ = (wr us κ).or ((L.upd u).get κ) := fun b => Zn9 us _ h1.2 b κ
  cases hu : u.ent with
  | none =>
   cases u with
   | f d =>
    have hd := h2 d (by simp)
    have he : L.upd (.f d) = L := Z134 hd
    rw [key (fun d' hd' => by rw [he]; exact h2 d' (List.mem_cons_of_mem _ hd')), he]
    simp only [wr, hu]
    cases wr us κ <;> rfl
   | _ => cases hu
  | some p =>
   obtain ⟨κ', e⟩ := p
   have hkey : (wr (u :: us) κ).or (L.get κ) = (wr us κ).or ((L.upd u).get κ) := by
    rw [Zvv hu κ]
    simp only [wr, hu]
    cases wr us κ with
    | some e => rfl
    | none => cases κ'.eqb κ <;> rfl
   rw [hkey]
   refine key (fun r hr => NoRef.of_get fun κ2 e2 hg => ?_)
   rw [Zvv hu κ2] at hg
   split at hg
   ·cases hg
    have h3 := h1.1
    rw [hu] at h3
    have := List.all_eq_true.1 h3 _ hr
    simpa [fNot] using this
   ·exact (h2 r (List.mem_cons_of_mem _ hr)).get hg
def Z7u (κ : Key) : List Upd → Bool
 | [] => false
 | u :: us => (match u.ent with | some (κ', _) => κ'.eqb κ | none => false) || Z7u κ us
theorem Zpy : ∀ {us : List Upd} {κ : Key}, Z7u κ us = false → wr us κ = none
 | [], κ, h => rfl
 | u :: us, κ, h => by
  simp only [Z7u, Bool.or_eq_false_iff] at h
  simp only [wr, Zpy h.2]
  cases hu : u.ent with
  | none => rfl
  | some p => have := h.1; rw [hu] at this; simp only [] at this ⊢; rw [this]
def Z5m : List (List Upd) → Nat → (Nat → Bool) → Key → Option Ent
 | [], _, _, _ => none
 | us :: E, k, S, κ => match Z5m E (k + 1) S κ with
  | some e => some e
  | none => match S k with
   | true => wr us κ
   | false => none
theorem Zlu : ∀ {E : List (List Upd)} {k : Nat} {S : Nat → Bool} {κ : Key} {e : Ent}, Z5m E k S κ = some e → κ.fits e
 | [], k, S, κ, e, h => by cases h
 | us :: E, k, S, κ, e, h => by
  simp only [Z5m] at h
  split at h
  ·rename_i e' h1; cases h; exact Zlu h1
  ·split at h
   ·exact Zu8 h
   ·cases h
theorem Zaf : ∀ {E : List (List Upd)} {k : Nat} {S S' : Nat → Bool} {κ : Key}, (∀ j us, E[j]? = some us → Z7u κ us = true → S (k + j) = S' (k + j)) → Z5m E k S κ = Z5m E k S' κ
 | [], k, S, S', κ, h => rfl
 | us :: E, k, S, S', κ, h => by
  have h1 : Z5m E (k + 1) S κ = Z5m E (k + 1) S' κ := Zaf fun j us hj hk => by
   have := h (j + 1) us (by simpa using hj) hk
   rwa [show k + (j + 1) = k + 1 + j by omega] at this
  simp only [Z5m, h1]
  cases hk : Z7u κ us with
  | true => have := h 0 us (by simp) hk; rw [Nat.add_zero] at this; rw [this]
  | false => rw [Zpy hk]; cases S k <;> cases S' k <;> rfl
theorem Zop : ∀ {E : List (List Upd)} {k i : Nat} {S S' : Nat → Bool} {κ : Key} {us : List Upd}, E[i]? = some us → S (k + i) = false → S' (k + i) = true → (∀ j, j ≠ k + i → S' j = S j) →
  (∀ j vs, E[j]? = some vs → i < j → Z7u κ us = true → Z7u κ vs = true → S (k + j) = false) → Z5m E k S' κ = (wr us κ).or (Z5m E k S κ)
 | [], k, i, S, S', κ, us, h, _, _, _, _ => by simp at h
 | vs :: E, k, 0, S, S', κ, us, h, hS, hS', hne, hw => by
  simp at h
  subst h
  simp only [Nat.add_zero] at hS hS' hne
  have h1 : Z5m E (k + 1) S' κ = Z5m E (k + 1) S κ := Zaf fun j us hj hk => hne _ (by omega)
  simp only [Z5m, h1, hS, hS']
  cases hk : Z7u κ vs with
  | false =>
   rw [Zpy hk]
   cases Z5m E (k + 1) S κ <;> rfl
  | true =>
   have h2 : Z5m E (k + 1) S κ = none := by
    have : Z5m E (k + 1) S κ = Z5m E (k + 1) (fun _ => false) κ := Zaf fun j us hj hk' => by
     have := hw (j + 1) us (by simpa using hj) (by omega) hk hk'
     rwa [show k + (j + 1) = k + 1 + j by omega] at this
    rw [this]
    clear this h1 hw hne hS hS'
    generalize k + 1 = m
    induction E generalizing m with
    | nil => rfl
    | cons x E ih => simp only [Z5m, ih]
   rw [h2]
   cases wr vs κ <;> rfl
 | vs :: E, k, i + 1, S, S', κ, us, h, hS, hS', hne, hw => by
  have h1 : Z5m E (k + 1) S' κ = (wr us κ).or (Z5m E (k + 1) S κ) := by
   refine Zop (i := i) (by simpa using h) ?_ ?_ ?_ ?_
   ·rwa [show k + 1 + i = k + (i + 1) by omega]
   ·rwa [show k + 1 + i = k + (i + 1) by omega]
   ·intro j hj; exact hne j (by omega)
   ·intro j ws hj hlt h3 h4
    have := hw (j + 1) ws (by simpa using hj) (by omega) h3 h4
    rwa [show k + (j + 1) = k + 1 + j by omega] at this
  have hk : S' k = S k := hne k (by omega)
  simp only [Z5m, h1, hk]
  cases wr us κ with
  | none => rfl
  | some e => rfl
def LS (L0 : Look) (E : List (List Upd)) (S : Nat → Bool) : Look := Look.ofGet fun κ => (Z5m E 0 S κ).or (L0.get κ)
theorem Zmh (L0 : Look) (E : List (List Upd)) (S : Nat → Bool) (κ : Key) : (LS L0 E S).get κ = (Z5m E 0 S κ).or (L0.get κ) := by
 refine Look.get_ofGet (fun κ e h => ?_) κ
 cases hl : Z5m E 0 S κ with
 | some e' => rw [hl] at h; cases h; exact Zlu hl
 | none => rw [hl] at h; exact Look.get_fits h
def Look.over (s : St) (X : Look) : Look where
 t k := match lk s.t k with | some e => some e | none => X.t k
 b k := match lk s.b k with | some e => some e | none => X.b k
 g k := match lk s.g k with | some e => some e | none => X.g k
theorem Look.over_eq {s : St} {L : Look} (h : ∀ κ e, s.look.get κ = some e → L.get κ = some e) : Look.over s L = L := by
 refine Look.ext_get fun κ => ?_
 cases κ with
 | t k =>
  cases hk : lk s.t k with
  | none => simp [Look.get, Look.over, hk]
  | some e => have := h (.t k) (.t e) (by simp [Look.get, St.look, hk]); rw [this]; simp [Look.get, Look.over, hk]
 | b k =>
  cases hk : lk s.b k with
  | none => simp [Look.get, Look.over, hk]
  | some e => have := h (.b k) (.b e) (by simp [Look.get, St.look, hk]); rw [this]; simp [Look.get, Look.over, hk]
 | g k =>
  cases hk : lk s.g k with
  | none => simp [Look.get, Look.over, hk]
  | some e => have := h (.g k) (.g e) (by simp [Look.get, St.look, hk]); rw [this]; simp [Look.get, Look.over, hk]
end Go.Bv

namespace Go.Bv
open Go.RowKit
def Zdq (e : Edge) : Bool := Region.binds .any e
def Zoj (acc : List Nat) : List Edge → Nat
 | [] => 0
 | e :: es => match Zdq e with
  | true => Nat.lor (Nat.lor (Nat.shiftLeft 1 e.on) (acc.getD e.on 0)) (Zoj acc es)
  | false => Zoj acc es
def Zoi : List Oper → List Nat → List Nat
 | [], acc => acc
 | o :: l, acc => Zoi l (acc ++ [Zoj acc o.after.toList])
def DC (ops : List Oper) (S : Nat → Bool) : Prop := ∀ (i : Nat) (o : Oper), ops[i]? = some o → S i = true → ∀ e ∈ o.after.toList, Zdq e = true → S e.on = true
def Good (ops : List Oper) (A : List Nat) (i : Nat) (o : Oper) : Prop :=
 ∀ S, DC ops S → (∀ e ∈ o.after.toList, Zdq e = true → S e.on = true) → ∀ j, Nat.testBit (A.getD i 0) j = true → S j = true
theorem Zgv {acc : List Nat} : ∀ {es : List Edge} {j : Nat}, Nat.testBit (Zoj acc es) j = true → ∃ e ∈ es, Zdq e = true ∧ (j = e.on ∨ Nat.testBit (acc.getD e.on 0) j = true)
 | [], j, h => by simp [Zoj] at h
 | e :: es, j, h => by
  simp only [Zoj] at h
  split at h
  ·rename_i hb
   have h' : Nat.testBit ((1 <<< e.on ||| acc.getD e.on 0) ||| Zoj acc es) j = true := h
   rw [Nat.testBit_or, Nat.testBit_or, Bool.or_eq_true, Bool.or_eq_true] at h'
   rcases h' with (h1 | h1) | h1
   ·refine ⟨e, by simp, hb, .inl ?_⟩
    rw [Nat.one_shiftLeft, Nat.testBit_two_pow] at h1
    simpa using (of_decide_eq_true h1).symm
   ·exact ⟨e, by simp, hb, .inr h1⟩
   ·obtain ⟨e', he', h2⟩ := Zgv h1
    exact ⟨e', by simp [he'], h2⟩
  ·obtain ⟨e', he', h2⟩ := Zgv h
   exact ⟨e', by simp [he'], h2⟩
theorem Zlr {ops : List Oper} : ∀ (l pre : List Oper) (acc : List Nat), ops = pre ++ l → acc.length = pre.length → (∀ i o, pre[i]? = some o → Good ops acc i o) →
  ∀ i o, ops[i]? = some o → Good ops (Zoi l acc) i o
 | [], pre, acc, he, hl, hg, i, o, hi => by
  simp at he; subst he; exact hg i o hi
 | x :: l, pre, acc, he, hl, hg, i, o, hi => by
  refine Zlr l (pre ++ [x]) (acc ++ [Zoj acc x.after.toList]) (by simp [he]) (by simp [hl]) ?_ i o hi
  intro k y hk
  by_cases hlt : k < pre.length
  ·rw [List.getElem?_append_left hlt] at hk
   have := hg k y hk
   unfold Good at this ⊢
   rw [List.getD_eq_getElem?_getD] at this ⊢
   rw [List.getElem?_append_left (by omega)]
   exact this
  ·have hlen : k < (pre ++ [x]).length := (List.getElem?_eq_some_iff.1 hk).1
   simp at hlen
   have hk' : k = pre.length := by omega
   subst hk'
   simp at hk
   subst hk
   intro S hS hr j hj
   rw [List.getD_eq_getElem?_getD, List.getElem?_append_right (by omega)] at hj
   simp [hl] at hj
   obtain ⟨e, he1, he2, he3⟩ := Zgv hj
   rcases he3 with rfl | he3
   ·exact hr e he1 he2
   ·have hon := hr e he1 he2
    by_cases hlt' : e.on < pre.length
    ·have hp : pre[e.on]? = some pre[e.on] := List.getElem?_eq_getElem hlt'
     refine hg e.on _ hp S hS (fun e' h1 h2 => hS e.on _ ?_ hon e' h1 h2) j he3
     rw [he, List.getElem?_append_left hlt']; exact hp
    ·rw [List.getD_eq_getElem?_getD, List.getElem?_eq_none (by omega)] at he3
     simp at he3
def opdT : Operand → List Nat
 | .tmp t => [t]
 | _ => []
def optT : Option Operand → List Nat
 | some x => opdT x
 | none => []
def Z124 : Op → List Nat
 | .move x | .assign x | .box _ x | .load _ x | .nilCheck x | .unOp _ _ x | .convert _ _ x | .fieldAddr _ x _ | .field _ x _ | .extract x _ => opdT x
 | .pick c x y => opdT c ++ opdT x ++ opdT y
 | .build _ ps | .buildSlice _ _ ps => ps.toList.flatMap fun p => opdT p.2
 | .store _ x y | .binOp _ _ x y _ | .makeSlice _ x y | .indexAddr _ x y | .index _ x y => opdT x ++ opdT y
 | .makeFunc _ _ c => c.toList.flatMap opdT
 | .slice _ x l h _ => opdT x ++ optT l ++ optT h
 | .call c => (match c.callee with | .value g => opdT g | _ => []) ++ c.args.toList.flatMap opdT
 | .lookup _ x i _ => opdT x ++ opdT i
 | .mapUpdate _ m k x | .insert _ m k x => opdT m ++ opdT k ++ opdT x
 | _ => []
def sub {α : Type} (p : Nat → Bool) : List (Nat × α) → List (Nat × α)
 | [] => []
 | (k, e) :: l => match p k with | true => (k, e) :: sub p l | false => sub p l
theorem Zom {α : Type} {p : Nat → Bool} : ∀ {l : List (Nat × α)} {k : Nat} {e : α}, lk (sub p l) k = some e → lk l k = some e
 | [], k, e, h => by cases h
 | (j, x) :: l, k, e, h => by
  simp only [sub] at h
  simp only [lk]
  cases hp : p j with
  | true =>
   rw [hp] at h
   simp only [lk] at h
   cases hj : Nat.beq j k with
   | true => rw [hj] at h; exact h
   | false => rw [hj] at h; exact Zom h
  | false =>
   rw [hp] at h
   have := Zom h
   cases hj : Nat.beq j k with
   | true =>
    exfalso
    have hjk := Z3o hj
    subst hjk
    have hno : ∀ (l : List (Nat × α)), lk (sub p l) j = none := by
     intro l
     induction l with
     | nil => rfl
     | cons q l ih =>
      obtain ⟨q1, q2⟩ := q
      simp only [sub]
      cases hq : p q1 with
      | true =>
       simp only [lk]
       cases hb : Nat.beq q1 j with
       | true => have := Z3o hb; subst this; rw [hp] at hq; cases hq
       | false => exact ih
      | false => exact ih
    rw [hno l] at h
    cases h
   | false => exact this
def Zmo : OP → Key
 | .t s _ => .t s
 | .b d _ => .b d
 | .a i _ => .g i
def Zo4 : OwnL → List Key
 | [] => []
 | (_, .al p _) :: l => Zmo p :: Zo4 l
 | (_, .sb p _ _ _ _) :: l => Zmo p :: Zo4 l
 | _ :: l => Zo4 l
def Zz4 : List (Nat × (SV × OwnL)) → List Key
 | [] => []
 | (_, (sv, own)) :: l => (match sv with | .ptr d _ => [.b d] | .mp d => [.b d] | .el p _ _ _ _ => [Zmo p] | .v _ => []) ++ (Zo4 own ++ Zz4 l)
def tsIn : List Key → List Nat
 | [] => []
 | .t s :: l => s :: tsIn l
 | _ :: l => tsIn l
def bsIn : List Key → List Nat
 | [] => []
 | .b s :: l => s :: bsIn l
 | _ :: l => bsIn l
def gsIn : List Key → List Nat
 | [] => []
 | .g s :: l => s :: gsIn l
 | _ :: l => gsIn l
def Zus : List (Nat × (SV × OwnL)) → List Key
 | [] => []
 | (_, (sv, own)) :: l => (match sv with | .el p _ _ _ _ => [Zmo p] | _ => []) ++ (Zo4 own ++ Zus l)
def Z13d : Op → Bool
 | .move _ | .assign _ | .nilCheck _ | .fieldAddr _ _ _ => true
 | _ => false
def Z13c : Op → Bool
 | .move _ | .assign _ => true
 | _ => false
def Z107 (ops : List Oper) (st : St) (o : Oper) : St :=
 let ts := Z124 o.op ++ (match o.guard with | some (j, _) => (match (ops[j]?).bind (·.dst) with | some t => [t] | none => []) | none => [])
 let ks := match Z13c o.op with | true => [] | false => match Z13d o.op with | true => Zus (sub (fun k => memN k ts) st.t) | false => Zz4 (sub (fun k => memN k ts) st.t)
 ⟨sub (fun k => memN k ts || memN k (tsIn ks)) st.t, sub (fun k => memN k (bsIn ks)) st.b, sub (fun k => memN k (gsIn ks)) st.g⟩
theorem Zxv (ops : List Oper) (st : St) (o : Oper) {κ : Key} {e : Ent} (h : (Z107 ops st o).look.get κ = some e) : st.look.get κ = some e := by
 cases κ <;> simp only [Look.get, Option.map_eq_some_iff] at h ⊢ <;> obtain ⟨x, hx, rfl⟩ := h
 ·exact ⟨x, Zom hx, rfl⟩
 ·exact ⟨x, Zom hx, rfl⟩
 ·exact ⟨x, Zom hx, rfl⟩
def fsOf : List Upd → List Ref
 | [] => []
 | .f d :: us => d :: fsOf us
 | _ :: us => fsOf us
theorem Zn1 : ∀ {us : List Upd} {d : Ref}, Upd.f d ∈ us → d ∈ fsOf us
 | [], d, h => by cases h
 | u :: us, d, h => by
  rcases List.mem_cons.1 h with rfl | h1
  ·simp [fsOf]
  ·have := Zn1 h1
   cases u <;> simp [fsOf, this]
def Zvh (st : St) (r : Ref) : Bool := (st.t.all fun p => !Zfl r p.2) && (st.b.all fun p => !Zi1 r p.2) && (st.g.all fun p => !Z4l r p.2)
theorem Zjo {α : Type} : ∀ {l : List (Nat × α)} {k : Nat} {e : α}, lk l k = some e → (k, e) ∈ l
 | [], k, e, h => by cases h
 | (j, x) :: l, k, e, h => by
  simp only [lk] at h
  cases hj : Nat.beq j k with
  | true => rw [hj] at h; cases h; have := Z3o hj; subst this; simp
  | false => rw [hj] at h; simp [Zjo h]
theorem Zlo {st : St} {r : Ref} (h : Zvh st r = true) : NoRef r st.look := by
 simp only [Zvh, Bool.and_eq_true] at h
 exact ⟨fun s e he => by have := List.all_eq_true.1 h.1.1 _ (Zjo he); simpa using this, fun s e he => by have := List.all_eq_true.1 h.1.2 _ (Zjo he); simpa using this, fun s e he => by have := List.all_eq_true.1 h.2 _ (Zjo he); simpa using this⟩
structure Evt where
 rd : St
 ups : List Upd
def dRun (X : Look) (P : Program) (n : Nat) (ops : List Oper) : List Oper → List Hint → St → Option (List Evt × St × List Prop)
 | [], _, st => some ([], st, [])
 | o :: rest, hs, st =>
  match Zpw P n ops (Look.over (Z107 ops st o) X) o (hs.headD {}) with
  | some (ups, ob1) => match fOk ups && (fsOf ups).all (Zvh st) with
   | true => match dRun X P n ops rest hs.tail (st.upds ups) with
    | some (E, st2, ob2) => some (⟨Z107 ops st o, ups⟩ :: E, st2, ob1 ++ ob2)
    | none => none
   | false => none
  | none => none
theorem Z11a {i j : Nat} (h : i < j) : Nat.blt i j = true := by simp only [Nat.blt]; exact Nat.ble_eq_true_of_le h
theorem Zsp {i j : Nat} (h : j ≤ i) : Nat.blt i j = false := by
 cases hb : Nat.blt i j with
 | false => rfl
 | true => simp only [Nat.blt] at hb; have := Nat.le_of_ble_eq_true hb; omega
def Z7y : List Evt → List (List Upd)
 | [] => []
 | e :: E => e.ups :: Z7y E
theorem Zd1 : ∀ {E : List Evt} {j : Nat}, (Z7y E)[j]? = (E[j]?).map (·.ups)
 | [], j => by simp [Z7y]
 | e :: E, 0 => by simp [Z7y]
 | e :: E, j + 1 => by simp [Z7y, Zd1 (E := E) (j := j)]
theorem Zjq : ∀ {E : List (List Upd)} {k : Nat} {S : Nat → Bool} {κ : Key}, (∀ j, k ≤ j → S j = false) → Z5m E k S κ = none
 | [], k, S, κ, h => rfl
 | us :: E, k, S, κ, h => by
  simp only [Z5m, Zjq (E := E) (k := k + 1) (fun j hj => h j (by omega)), h k (Nat.le_refl k)]
variable {P : Program} {n : Nat} {X : Look}
theorem Zjt {st : St} {ups : List Upd} (h : (fOk ups && (fsOf ups).all (Zvh st)) = true) (κ : Key) : (st.upds ups).look.get κ = (wr ups κ).or (st.look.get κ) := by
 rw [Bool.and_eq_true] at h
 rw [St.look_upds]
 exact Zn9 ups _ h.1 (fun d hd => Zlo (List.all_eq_true.1 h.2 d (Zn1 hd))) κ
theorem Zk6 {ops : List Oper} : ∀ (l : List Oper) (hs : List Hint) (st : St) (k : Nat) (E : List Evt) (fin : St) (obs : List Prop), dRun X P n ops l hs st = some (E, fin, obs) →
  E.length = l.length ∧
  (∀ κ, fin.look.get κ = (Z5m (Z7y E) k (fun _ => true) κ).or (st.look.get κ)) ∧
  (∀ j ev, E[j]? = some ev → fOk ev.ups = true ∧ (∀ κ e, ev.rd.look.get κ = some e → (Z5m (Z7y E) k (fun i => Nat.blt i (k + j)) κ).or (st.look.get κ) = some e) ∧
   ∃ o h ob, l[j]? = some o ∧ Zpw P n ops (Look.over ev.rd X) o h = some (ev.ups, ob) ∧ ∀ p ∈ ob, p ∈ obs)
 | [], hs, st, k, E, fin, obs, h => by
  simp only [dRun] at h
  cases h
  exact ⟨rfl, fun κ => by simp [Z7y, Z5m], fun j ev hj => by simp at hj⟩
 | o :: rest, hs, st, k, E, fin, obs, h => by
  simp only [dRun] at h
  split at h
  ·rename_i ups ob1 h1
   split at h
   ·rename_i hf
    split at h
    ·rename_i E' st2 ob2 h2
     cases h
     obtain ⟨i1, i2, i3⟩ := Zk6 rest hs.tail (st.upds ups) (k + 1) E' _ ob2 h2
     refine ⟨by simp [i1], ?_, ?_⟩
     ·intro κ
      rw [i2 κ, Zjt hf κ]
      simp only [Z7y, Z5m]
      cases Z5m (Z7y E') (k + 1) (fun _ => true) κ <;> rfl
     ·intro j ev hj
      cases j with
      | zero =>
       simp at hj
       subst hj
       refine ⟨(Bool.and_eq_true _ _ ▸ hf).1, ?_, ⟨o, _, ob1, by simp, h1, fun p hp => by simp [hp]⟩⟩
       intro κ e he
       rw [Zjq (fun j hj => Zsp (by omega))]
       exact Zxv ops st o he
      | succ j =>
       obtain ⟨j1, j2, o', h', ob, j3, j4, j5⟩ := i3 j ev (by simpa using hj)
       refine ⟨j1, ?_, ⟨o', h', ob, by simpa using j3, j4, fun p hp => by simp [j5 p hp]⟩⟩
       intro κ e he
       have := j2 κ e he
       rw [Zjt hf κ] at this
       have hk : Nat.blt k (k + (j + 1)) = true := Z11a (by omega)
       simp only [Z7y, Z5m, hk]
       rw [show k + (j + 1) = k + 1 + j by omega]
       rw [← this]
       cases Z5m (Z7y E') (k + 1) (fun i => Nat.blt i (k + 1 + j)) κ <;> rfl
    ·cases h
   ·cases h
  ·cases h
end Go.Bv

namespace Go.Bv
open Go.RowKit
def ordd (A : List Nat) (i j : Nat) : Bool := Nat.beq i j || (Nat.blt j i && Nat.testBit (A.getD i 0) j) || (Nat.blt i j && Nat.testBit (A.getD j 0) i)
def chkK (A : List Nat) (i : Nat) (κ : Key) : List Evt → Nat → Bool
 | [], _ => true
 | e :: E, j => (!Z7u κ e.ups || ordd A i j) && chkK A i κ E (j + 1)
def Zqq {α : Type} (f : Nat → Key) : List (Nat × α) → List Key
 | [] => []
 | (k, _) :: l => f k :: Zqq f l
def Zzf (st : St) : List Key := Zqq .t st.t ++ (Zqq .b st.b ++ Zqq .g st.g)
def Zir : List Upd → List Key
 | [] => []
 | u :: us => match u.ent with | some (κ, _) => κ :: Zir us | none => Zir us
def Zgw (r : Ref) : List Upd → Bool
 | [] => false
 | u :: us => (match u.ent with | some (_, e) => e.refs r | none => false) || Zgw r us
def Zat (r : Ref) : List Upd → List Key
 | [] => []
 | u :: us => match u.ent with | some (κ, e) => (match e.refs r with | true => κ :: Zat r us | false => Zat r us) | none => Zat r us
def covK (A : List Nat) (i : Nat) (κ : Key) : List Evt → Nat → Bool
 | [], _ => false
 | e :: E, j => (Z7u κ e.ups && Nat.testBit (A.getD i 0) j) || covK A i κ E (j + 1)
def chkF (A : List Nat) (i : Nat) (d : Ref) : List Evt → Nat → Bool
 | [], _ => true
 | e :: E, j => (!Zgw d e.ups || Nat.beq i j || (Nat.blt i j && Nat.testBit (A.getD j 0) i) || (Zat d e.ups).all fun κ => covK A i κ E (j + 1)) && chkF A i d E (j + 1)
def Zwe (A : List Nat) (st0 : St) (E : List Evt) (i : Nat) (e : Evt) : Bool :=
 (Zzf e.rd).all (fun κ => chkK A i κ E 0) && (Zir e.ups).all (fun κ => chkK A i κ E 0) && (fsOf e.ups).all (fun d => chkF A i d E 0 && Zvh st0 d)
def Zm1 (A : List Nat) (st0 : St) (E : List Evt) : List Evt → Nat → Bool
 | [], _ => true
 | e :: l, i => Zwe A st0 E i e && Zm1 A st0 E l (i + 1)
def Zh0 : List Oper → Nat → Bool
 | [], _ => true
 | o :: l, i => (o.after.toList.all fun e => !Zdq e || Nat.blt e.on i) && Zh0 l (i + 1)
def Look.none : Look := ⟨fun _ => Option.none, fun _ => Option.none, fun _ => Option.none⟩
def Zyu (X : Look) (P : Program) (n : Nat) (ops : Array Oper) (hs : List Hint) (fs : List Fix) (st : St) (ts bs gs : List Nat) : Option (St × List Prop) :=
 match dRun X P n ops.toList ops.toList hs st with
 | some (E, fin, obs) => match Zm1 (Zoi ops.toList []) st E E 0 && Zh0 ops.toList 0 with
  | true => match Zi3 fin fs with
   | some s1 => match s1.keep ts bs gs with
    | some s' => some (s', obs)
    | none => none
   | none => none
  | false => none
 | none => none
theorem Zp6 {A : List Nat} {i : Nat} {κ : Key} : ∀ {E : List Evt} {k j : Nat} {e : Evt}, chkK A i κ E k = true → E[j]? = some e → Z7u κ e.ups = true → ordd A i (k + j) = true
 | [], k, j, e, h, hj, hk => by simp at hj
 | x :: E, k, 0, e, h, hj, hk => by
  simp at hj; subst hj
  simp only [chkK, Bool.and_eq_true, Bool.or_eq_true, hk] at h
  simpa using h.1
 | x :: E, k, j + 1, e, h, hj, hk => by
  simp only [chkK, Bool.and_eq_true] at h
  have := Zp6 (j := j) h.2 (by simpa using hj) hk
  rwa [show k + 1 + j = k + (j + 1) by omega] at this
theorem Zp3 {A : List Nat} {i : Nat} {κ : Key} : ∀ {E : List Evt} {k : Nat}, covK A i κ E k = true → ∃ j e, E[j]? = some e ∧ Z7u κ e.ups = true ∧ Nat.testBit (A.getD i 0) (k + j) = true
 | [], k, h => by cases h
 | x :: E, k, h => by
  simp only [covK, Bool.or_eq_true, Bool.and_eq_true] at h
  rcases h with ⟨h1, h2⟩ | h
  ·exact ⟨0, x, by simp, h1, h2⟩
  ·obtain ⟨j, e, h1, h2, h3⟩ := Zp3 h
   exact ⟨j + 1, e, by simpa using h1, h2, by rwa [show k + (j + 1) = k + 1 + j by omega]⟩
theorem Zu6 : ∀ {us : List Upd} {κ : Key} {r : Ref} {e : Ent}, wr us κ = some e → e.refs r = true → κ ∈ Zat r us
 | [], κ, r, e, h, hd => by cases h
 | u :: us, κ, r, e, h, hd => by
  simp only [wr] at h
  split at h
  ·rename_i e' h1
   cases h
   have := Zu6 h1 hd
   simp only [Zat]
   split
   ·split
    ·exact List.mem_cons_of_mem _ this
    ·exact this
   ·exact this
  ·split at h
   ·rename_i κ' e' h2
    split at h
    ·rename_i hk
     cases h
     have := Key.eqb_iff.1 hk
     subst this
     simp only [Zat, h2, hd]
     exact List.mem_cons_self ..
    ·cases h
   ·cases h
theorem Zp7 {A : List Nat} {i : Nat} {d : Ref} : ∀ {E : List Evt} {k j : Nat} {e : Evt}, chkF A i d E k = true → E[j]? = some e → Zgw d e.ups = true → ∀ {κ : Key}, κ ∈ Zat d e.ups →
  i = k + j ∨ (i < k + j ∧ Nat.testBit (A.getD (k + j) 0) i = true) ∨ ∃ j2 e2, E[j2]? = some e2 ∧ j < j2 ∧ Z7u κ e2.ups = true ∧ Nat.testBit (A.getD i 0) (k + j2) = true
 | [], k, j, e, h, hj, hk, κ, hκ => by simp at hj
 | x :: E, k, 0, e, h, hj, hk, κ, hκ => by
  simp at hj; subst hj
  simp only [chkF, Bool.and_eq_true, Bool.or_eq_true, hk] at h
  rcases h.1 with ((h1 | h1) | ⟨h1, h2⟩) | h1
  ·simp at h1
  ·exact .inl (Z3o h1)
  ·exact .inr (.inl ⟨Z4a h1, h2⟩)
  ·obtain ⟨j, e, g1, g2, g3⟩ := Zp3 (List.all_eq_true.1 h1 κ hκ)
   exact .inr (.inr ⟨j + 1, e, by simpa using g1, by omega, g2, by rwa [show k + (j + 1) = k + 1 + j by omega]⟩)
 | x :: E, k, j + 1, e, h, hj, hk, κ, hκ => by
  simp only [chkF, Bool.and_eq_true] at h
  have := Zp7 (j := j) h.2 (by simpa using hj) hk hκ
  rw [show k + 1 + j = k + (j + 1) by omega] at this
  rcases this with h1 | h1 | ⟨j2, e2, g1, g2, g3, g4⟩
  ·exact .inl h1
  ·exact .inr (.inl h1)
  ·exact .inr (.inr ⟨j2 + 1, e2, by simpa using g1, by omega, g3, by rwa [show k + (j2 + 1) = k + 1 + j2 by omega]⟩)
theorem Zk9 {A : List Nat} {st0 : St} {E : List Evt} : ∀ {l : List Evt} {k j : Nat} {e : Evt}, Zm1 A st0 E l k = true → l[j]? = some e → Zwe A st0 E (k + j) e = true
 | [], k, j, e, h, hj => by simp at hj
 | x :: l, k, 0, e, h, hj => by
  simp at hj; subst hj
  simp only [Zm1, Bool.and_eq_true] at h
  exact h.1
 | x :: l, k, j + 1, e, h, hj => by
  simp only [Zm1, Bool.and_eq_true] at h
  have := Zk9 (j := j) h.2 (by simpa using hj)
  rwa [show k + 1 + j = k + (j + 1) by omega] at this
theorem Zhq : ∀ {l : List Oper} {k j : Nat} {o : Oper}, Zh0 l k = true → l[j]? = some o → ∀ e ∈ o.after.toList, Zdq e = true → e.on < k + j
 | [], k, j, o, h, hj => by simp at hj
 | x :: l, k, 0, o, h, hj => by
  simp at hj; subst hj
  simp only [Zh0, Bool.and_eq_true, List.all_eq_true, Bool.or_eq_true] at h
  intro e he hb
  rcases h.1 e he with h1 | h1
  ·simp [hb] at h1
  ·exact Z4a h1
 | x :: l, k, j + 1, o, h, hj => by
  simp only [Zh0, Bool.and_eq_true] at h
  have := Zhq (j := j) h.2 (by simpa using hj)
  rwa [show k + 1 + j = k + (j + 1) by omega] at this
theorem Zfw {α : Type} {f : Nat → Key} : ∀ {l : List (Nat × α)} {k : Nat} {e : α}, (k, e) ∈ l → f k ∈ Zqq f l
 | [], k, e, h => by cases h
 | (j, x) :: l, k, e, h => by
  rcases List.mem_cons.1 h with h | h
  ·cases h; simp [Zqq]
  ·simp [Zqq, Zfw h]
theorem Zta {st : St} {κ : Key} {e : Ent} (h : st.look.get κ = some e) : κ ∈ Zzf st := by
 cases κ <;> simp only [Look.get, Option.map_eq_some_iff] at h <;> obtain ⟨x, hx, rfl⟩ := h
 ·exact List.mem_append_left _ (Zfw (Zjo hx))
 ·exact List.mem_append_right _ (List.mem_append_left _ (Zfw (Zjo hx)))
 ·exact List.mem_append_right _ (List.mem_append_right _ (Zfw (Zjo hx)))
theorem Zes : ∀ {us : List Upd} {κ : Key}, Z7u κ us = true → κ ∈ Zir us
 | [], κ, h => by cases h
 | u :: us, κ, h => by
  simp only [Z7u, Bool.or_eq_true] at h
  simp only [Zir]
  cases hu : u.ent with
  | none =>
   rw [hu] at h
   rcases h with h | h
   ·cases h
   ·exact Zes h
  | some p =>
   obtain ⟨κ', e⟩ := p
   rw [hu] at h
   rcases h with h | h
   ·have := Key.eqb_iff.1 h; subst this; simp
   ·simp [Zes h]
theorem Zu7 : ∀ {us : List Upd} {κ : Key} {r : Ref} {e : Ent}, wr us κ = some e → e.refs r = true → Zgw r us = true
 | [], κ, r, e, h, hd => by cases h
 | u :: us, κ, r, e, h, hd => by
  simp only [wr] at h
  split at h
  ·rename_i e' h1
   cases h
   have := Zu7 h1 hd
   simp [Zgw, this]
  ·split at h
   ·rename_i κ' e' h2
    split at h
    ·cases h
     simp [Zgw, h2, hd]
    ·cases h
   ·cases h
theorem Zu5 : ∀ {us : List Upd} {κ : Key}, Z7u κ us = true → wr us κ ≠ none
 | [], κ, h => by cases h
 | u :: us, κ, h => by
  simp only [Z7u, Bool.or_eq_true] at h
  simp only [wr]
  split
  ·exact fun h => by cases h
  ·rename_i h1
   rcases h with h | h
   ·cases hu : u.ent with
    | none => rw [hu] at h; cases h
    | some p => rw [hu] at h; simp only [] at h ⊢; rw [h]; exact fun h => by cases h
   ·exact (Zu5 h h1).elim
theorem Zlt : ∀ {E : List Evt} {k : Nat} {S : Nat → Bool} {κ : Key} {e : Ent}, Z5m (Z7y E) k S κ = some e →
  ∃ j ev, E[j]? = some ev ∧ S (k + j) = true ∧ wr ev.ups κ = some e ∧ ∀ j2 ev2, E[j2]? = some ev2 → j < j2 → Z7u κ ev2.ups = true → S (k + j2) = false
 | [], k, S, κ, e, h => by cases h
 | x :: E, k, S, κ, e, h => by
  simp only [Z7y, Z5m] at h
  split at h
  ·rename_i e' h1
   cases h
   obtain ⟨j, ev, h2, h3, h4, h5⟩ := Zlt h1
   refine ⟨j + 1, ev, by simpa using h2, by rwa [show k + (j + 1) = k + 1 + j by omega], h4, fun j2 ev2 g1 g2 g3 => ?_⟩
   cases j2 with
   | zero => omega
   | succ j2 =>
    have := h5 j2 ev2 (by simpa using g1) (by omega) g3
    rwa [show k + (j2 + 1) = k + 1 + j2 by omega]
  ·rename_i h1
   split at h
   ·rename_i hS
    refine ⟨0, x, by simp, hS, h, fun j2 ev2 g1 g2 g3 => ?_⟩
    cases j2 with
    | zero => omega
    | succ j2 =>
     have hg : E[j2]? = some ev2 := by simpa using g1
     clear h g1 g2
     cases hc : S (k + (j2 + 1)) with
     | false => rfl
     | true =>
      exfalso
      have : ∀ {E : List Evt} {k j : Nat}, Z5m (Z7y E) k S κ = none → E[j]? = some ev2 → S (k + j) = true → False := by
       intro E
       induction E with
       | nil => intro k j _ h; simp at h
       | cons y E ih =>
        intro k j h1 h2 h3
        simp only [Z7y, Z5m] at h1
        split at h1
        ·cases h1
        ·rename_i h4
         cases j with
         | zero =>
          simp at h2; subst h2
          rw [Nat.add_zero] at h3
          rw [h3] at h1
          exact Zu5 g3 h1
         | succ j =>
          exact ih h4 (by simpa using h2) (by rwa [show k + 1 + j = k + (j + 1) by omega])
      exact this h1 hg (by rwa [show k + 1 + j2 = k + (j2 + 1) by omega])
   ·cases h
theorem Inv.drawn {E : Env} {L : Look} {a : Act} {w : World} {G : Gho} (h : Inv E L a w G) : Inv E L a { w with drawn := w.drawn + 1 } G :=
 h.step' (Av.never L) (w' := { w with drawn := w.drawn + 1 }) (G' := G) ⟨rfl, rfl, rfl, Nat.le_refl _, fun _ _ _ => ⟨rfl, rfl, rfl⟩, ⟨fun _ _ _ hc hk => ⟨hc, hk⟩, fun _ _ _ hc hk => ⟨hc, hk⟩⟩, fun b hb => (h.new b hb).2, h.new, fun b p hp => .inl ⟨p, hp⟩, fun _ _ => rfl, fun _ _ => rfl, ⟨fun _ _ => rfl, fun _ _ => rfl⟩⟩
theorem Z9v {ops : Array Oper} {listed : Array Bool} {i : Nat} : i ∈ Region.ready .any ops listed ↔ i < ops.size ∧ listed.getD i true = false ∧ ∃ o, ops.toList[i]? = some o ∧ ∀ e ∈ o.after.toList, Zdq e = true → listed.getD e.on false = true := by
 simp only [Region.ready, List.mem_filter, List.mem_range, Bool.and_eq_true, Array.getElem?_toList]
 constructor
 ·rintro ⟨h1, h2, h3⟩
  refine ⟨h1, by simpa using h2, ops[i], by simp [h1], ?_⟩
  rw [Array.getElem?_eq_getElem h1] at h3
  simp only [Option.map_some, Option.getD_some, Array.all_eq_true'] at h3
  intro e he hb
  have := h3 e (by simpa using he)
  rw [Bool.or_eq_true] at this
  rcases this with h | h
  ·simp only [Zdq] at hb; rw [hb] at h; simp at h
  ·exact h
 ·rintro ⟨h1, h2, o, h3, h4⟩
  refine ⟨h1, by simpa using h2, ?_⟩
  rw [h3]
  simp only [Option.map_some, Option.getD_some, Array.all_eq_true']
  intro e he
  rw [Bool.or_eq_true]
  cases hb : Region.binds .any e with
  | false => exact .inl rfl
  | true => exact .inr (h4 e (by simpa using he) hb)
end Go.Bv

namespace Go.Bv
open Go.RowKit
variable {En : Env} {Q : Exit → Act → World → Prop}
theorem Zvx {l : Array Bool} {i : Nat} (h : i < l.size) (x y : Bool) : l.getD i x = l.getD i y := by
 simp [Array.getD, h]
theorem Zsg (m i : Nat) : (Array.replicate m false).getD i false = false := by
 simp only [Array.getD_eq_getD_getElem?, Array.getElem?_replicate]
 split <;> rfl
theorem Zx8 {ops : Array Oper} {hs : List Hint} {st fin : St} {E : List Evt} {obs : List Prop} (hrun : ∀ X, dRun X En.P En.n ops.toList ops.toList hs st = some (E, fin, obs))
  (hchk : Zm1 (Zoi ops.toList []) st E E 0 = true) (hback : Zh0 ops.toList 0 = true) (hob : ∀ p ∈ obs, p) (hQ : ∀ a w, SR En fin.look a w → Q .normal a w) :
  ∀ (fuel : Nat) (listed : Array Bool) (a : Act) (w : World), listed.size = ops.size → listed.toList.count false = fuel → DC ops.toList (fun i => listed.getD i false) →
   SR En (LS st.look (Z7y E) (fun i => listed.getD i false)) a w → wpAny En.P .any ops Q fuel listed a w := by
 obtain ⟨hlen, hfin, _⟩ := Zk6 ops.toList hs st 0 E fin obs (hrun Look.none)
 have hlen' : E.length = ops.size := by simpa using hlen
 -- nothing more to do
 have hdone : ∀ (listed : Array Bool) (a : Act) (w : World), listed.size = ops.size → Region.ready .any ops listed = [] → SR En (LS st.look (Z7y E) (fun i => listed.getD i false)) a w → Q .normal a w := by
  intro listed a w hsz hr hI
  have hall : ∀ i, i < ops.size → listed.getD i false = true := by
   intro i
   induction i using Nat.strongRecOn with
   | _ i ih =>
    intro hi
    cases hc : listed.getD i false with
    | true => rfl
    | false =>
     have ho : ops.toList[i]? = some ops[i] := by simp [hi]
     have : i ∈ Region.ready .any ops listed := by
      refine Z9v.2 ⟨hi, by rw [Zvx (by omega) true false]; exact hc, ops[i], ho, ?_⟩
      intro e he hb
      have := Zhq hback ho e he hb
      rw [Nat.zero_add] at this
      exact ih e.on this (by omega)
     rw [hr] at this
     cases this
  have heq : LS st.look (Z7y E) (fun i => listed.getD i false) = fin.look := by
   refine Look.ext_get fun κ => ?_
   rw [Zmh, hfin κ]
   congr 1
   refine Zaf fun j us hj _ => ?_
   rw [Zd1, Option.map_eq_some_iff] at hj
   obtain ⟨ev, hj, _⟩ := hj
   have : j < E.length := (List.getElem?_eq_some_iff.1 hj).1
   rw [Nat.zero_add]
   exact hall j (by omega)
  rw [heq] at hI
  exact hQ a w hI
 intro fuel
 induction fuel with
 | zero =>
  intro listed a w hsz hcnt hDC hI
  have hr : Region.ready .any ops listed = [] := by
   rw [List.eq_nil_iff_forall_not_mem]
   intro i hi
   obtain ⟨h1, h2, _⟩ := Z9v.1 hi
   have hlt : i < listed.size := by omega
   have : false ∈ listed.toList := by
    simp only [Array.getD, hlt, dite_true] at h2
    rw [← h2]
    simp
   exact absurd (List.count_pos_iff.2 this) (by omega)
  exact ⟨hr, hdone listed a w hsz hr hI⟩
 | succ fuel ih =>
  intro listed a w hsz hcnt hDC hI
  refine ⟨fun hr => hdone listed a w hsz hr hI, ?_⟩
  intro i hi
  obtain ⟨hilt, h2, o, ho, hready⟩ := Z9v.1 hi
  have hlt : i < listed.size := by omega
  have hSi : listed.getD i false = false := by rw [Zvx hlt false true]; exact h2
  obtain ⟨ev, hevi⟩ : ∃ ev, E[i]? = some ev := ⟨E[i], by simp [show i < E.length by omega]⟩
  obtain ⟨_, _, hev⟩ := Zk6 ops.toList hs st 0 E fin obs (hrun (LS st.look (Z7y E) (fun i => listed.getD i false)))
  obtain ⟨hfok, hread, o', h, ob, ho', hstep, hobs⟩ := hev i ev hevi
  have : o' = o := by rw [ho] at ho'; cases ho'; rfl
  subst this
  have hone := Zk9 hchk hevi
  rw [Nat.zero_add] at hone
  simp only [Zwe, Bool.and_eq_true, List.all_eq_true] at hone
  obtain ⟨⟨hc1, hc2⟩, hc3⟩ := hone
  have hgood : ∀ i o, ops.toList[i]? = some o → Good ops.toList (Zoi ops.toList []) i o := Zlr ops.toList [] [] rfl rfl (by simp)
  have hanc : ∀ j, Nat.testBit ((Zoi ops.toList []).getD i 0) j = true → listed.getD j false = true := hgood i o' ho _ hDC hready
  have hdesc : ∀ j, j < ops.size → Nat.testBit ((Zoi ops.toList []).getD j 0) i = true → listed.getD j false = false := by
   intro j hj hb
   cases hc : listed.getD j false with
   | false => rfl
   | true =>
    have hoj : ops.toList[j]? = some ops[j] := by simp [hj]
    have := hgood j _ hoj _ hDC (fun e he hb => hDC j _ hoj hc e he hb) i hb
    have : listed.getD i false = true := this
    rw [hSi] at this
    cases this
  have hEl : ∀ j ev', E[j]? = some ev' → j < ops.size := fun j ev' hj => by
   have := (List.getElem?_eq_some_iff.1 hj).1; omega
  have hagree : ∀ κ, chkK (Zoi ops.toList []) i κ E 0 = true → ∀ j ev', E[j]? = some ev' → Z7u κ ev'.ups = true → listed.getD j false = Nat.blt j i := by
   intro κ hk j ev' hj hh
   have := Zp6 hk hj hh
   rw [Nat.zero_add] at this
   simp only [ordd, Bool.or_eq_true, Bool.and_eq_true] at this
   rcases this with (h1 | ⟨h1, h2⟩) | ⟨h1, h2⟩
   ·have := Z3o h1; subst this; rw [hSi, Zsp (Nat.le_refl _)]
   ·rw [hanc j h2, h1]
   ·rw [hdesc j (hEl j ev' hj) h2, Zsp (Nat.le_of_lt (Z4a h1))]
  have hle : ∀ κ e, ev.rd.look.get κ = some e → (LS st.look (Z7y E) (fun i => listed.getD i false)).get κ = some e := by
   intro κ e he
   have h1 := hread κ e he
   rw [Zmh, ← h1]
   congr 1
   refine Zaf fun j us hj hk => ?_
   rw [Zd1, Option.map_eq_some_iff] at hj
   obtain ⟨ev', hj, rfl⟩ := hj
   rw [Nat.zero_add, Nat.zero_add]
   exact hagree κ (hc1 κ (Zta he)) j ev' hj hk
  have hstep' := hstep
  rw [Look.over_eq hle] at hstep'
  have hNo : ∀ d, Upd.f d ∈ ev.ups → NoRef d (LS st.look (Z7y E) (fun i => listed.getD i false)) := by
   intro d hd
   refine NoRef.of_get fun κ e hg => ?_
   obtain ⟨hf1, hf2⟩ := hc3 d (Zn1 hd)
   cases hc : e.refs d with
   | false => rfl
   | true =>
    exfalso
    rw [Zmh] at hg
    cases hl : Z5m (Z7y E) 0 (fun i => listed.getD i false) κ with
    | none =>
     rw [hl] at hg
     have := (Zlo hf2).get (κ := κ) (e := e) (by simpa using hg)
     rw [hc] at this; cases this
    | some x =>
     rw [hl] at hg
     cases hg
     obtain ⟨j, ev', hj, hS, hin, hlast⟩ := Zlt hl
     rw [Nat.zero_add] at hS
     rcases Zp7 hf1 hj (Zu7 hin hc) (Zu6 hin hc) with h1 | ⟨h1, h2⟩ | ⟨j2, ev2, g1, g2, g3, g4⟩
     ·rw [Nat.zero_add] at h1; subst h1; rw [hSi] at hS; cases hS
     ·rw [Nat.zero_add] at h1 h2
      rw [hdesc j (hEl j ev' hj) h2] at hS; cases hS
     ·have := hlast j2 ev2 g1 g2 g3
      rw [Nat.zero_add] at this g4
      rw [hanc j2 g4] at this; cases this
  have hnew : LS st.look (Z7y E) (fun k => (listed.setIfInBounds i true).getD k false) = (LS st.look (Z7y E) (fun i => listed.getD i false)).upds ev.ups := by
   refine Look.ext_get fun κ => ?_
   rw [Zmh, Zn9 ev.ups _ hfok hNo κ, Zmh]
   have hi' : (Z7y E)[i]? = some ev.ups := by rw [Zd1, hevi]; rfl
   have hgS : ∀ j, j ≠ i → (listed.setIfInBounds i true).getD j false = listed.getD j false := by
    intro j hj
    simp only [Array.getD_eq_getD_getElem?, Array.getElem?_setIfInBounds]
    rw [if_neg (fun e => hj e.symm)]
   have hgi : (listed.setIfInBounds i true).getD i false = true := by
    simp only [Array.getD_eq_getD_getElem?, Array.getElem?_setIfInBounds]
    simp [hlt]
   rw [Zop (S := fun i => listed.getD i false) hi' (by rw [Nat.zero_add]; exact hSi) (by rw [Nat.zero_add]; exact hgi) (fun j hj => hgS j (by omega)) ?_]
   ·cases wr ev.ups κ <;> rfl
   ·intro j vs hj hij hk1 hk2
    rw [Zd1, Option.map_eq_some_iff] at hj
    obtain ⟨ev', hj, rfl⟩ := hj
    rw [Nat.zero_add]
    have := hagree κ (hc2 κ (Zes hk1)) j ev' hj hk2
    rw [this, Zsp (Nat.le_of_lt hij)]
  have ho2 : ops[i]? = some o' := by simpa using ho
  simp only [wpOp, ho2]
  refine Zhx hI hstep' (fun p hp => hob p (hobs p hp)) ?_
  intro a' w' hI'
  rw [← hnew] at hI'
  refine ih (listed.setIfInBounds i true) a' w' (by simp [hsz]) ?_ ?_ hI'
  ·rw [Array.toList_setIfInBounds]
   have hlt2 : i < listed.toList.length := by simpa using hlt
   rw [List.count_set hlt2]
   have : listed.toList[i] = false := by
    simp only [Array.getD, hlt, dite_true] at hSi
    simpa using hSi
   simp [this, hcnt]
  ·intro j oj hoj hS e he hb
   replace hS : (listed.setIfInBounds i true).getD j false = true := hS
   show (listed.setIfInBounds i true).getD e.on false = true
   have hgS : ∀ j, listed.getD j false = true → (listed.setIfInBounds i true).getD j false = true := by
    intro j hj
    simp only [Array.getD_eq_getD_getElem?, Array.getElem?_setIfInBounds] at hj ⊢
    by_cases hij : i = j
    ·subst hij; simp [hlt]
    ·rw [if_neg hij]; exact hj
   refine hgS _ ?_
   by_cases hji : j = i
   ·subst hji
    rw [ho] at hoj; cases hoj
    exact hready e he hb
   ·have : listed.getD j false = true := by
     simp only [Array.getD_eq_getD_getElem?, Array.getElem?_setIfInBounds] at hS ⊢
     rw [if_neg (fun e => hji e.symm)] at hS
     exact hS
    exact hDC j oj hoj this e he hb
theorem Wc.draw (hm : En.P.follows .mixedOrders = true) {st : St} {K : AE → St → Prop} {id : Nat} {ops : Array Oper} (hs : List Hint) (fs : List Fix) (ts bs gs : List Nat) (st' : St) (obs : List Prop)
  (h : Zyu Look.none En.P En.n ops hs fs st ts bs gs = some (st', obs)) (hx : ∀ X, dRun X En.P En.n ops.toList ops.toList hs st = dRun Look.none En.P En.n ops.toList ops.toList hs st) (hob : AllP obs) (hK : K .normal st') : Wc En (.region id ops true) st K := by
 intro a w hI Q hQ
 unfold Zyu at h
 split at h
 ·rename_i E fin ob hrun
  split at h
  ·rename_i hc
   rw [Bool.and_eq_true] at hc
   split at h
   ·rename_i s1 hf
    split at h
    ·rename_i s' hk
     cases h
     refine wp_region_any hm ?_
     refine Zx8 (fun X => (hx X).trans hrun) hc.1 hc.2 hob.mem (fun a' w' hI' => hQ .normal st' a' w' hK ((Z88 hI' hf).keep hk)) ops.size _ a _ (by simp) (by simp) ?_ ?_
     ·intro i o hi hS
      have hS' : (Array.replicate ops.size false).getD i false = true := hS
      rw [Zsg] at hS'
      cases hS'
     ·have : LS st.look (Z7y E) (fun i => (Array.replicate ops.size false).getD i false) = st.look := by
       refine Look.ext_get fun κ => ?_
       rw [Zmh, Zjq (fun j _ => ?_)]
       ·simp
       ·exact Zsg _ _
      rw [this]
      obtain ⟨G, hI⟩ := hI
      exact ⟨G, hI.drawn⟩
    ·cases h
   ·cases h
  ·cases h
 ·cases h
end Go.Bv

namespace Go.Bv
open Go.RowKit
variable {E : Env} {P : Program} {w w' : World} {st : St} {a : Act} {G : Gho}
def frz (d : Nat) (cs : List AV) (e : SV × OwnL) : SV × OwnL :=
 match e.1 with
 | .ptr k off => match Nat.beq k d with
  | true => (.v (.vptr (cs.drop off)), [])
  | false => e
 | _ => e
def mapT (f : SV × OwnL → SV × OwnL) : List (Nat × (SV × OwnL)) → List (Nat × (SV × OwnL))
 | [] => []
 | (k, e) :: l => (k, f e) :: mapT f l
theorem Zvk (f : SV × OwnL → SV × OwnL) : ∀ (l : List (Nat × (SV × OwnL))) (k : Nat), lk (mapT f l) k = (lk l k).map f
 | [], k => rfl
 | (j, e) :: l, k => by
  simp only [mapT, lk]
  cases Nat.beq j k with
  | true => rfl
  | false => exact Zvk f l k
def BX.row : BX → Option (List AV)
 | .cells cs _ => some cs
 | .part _ cs => some cs
 | _ => none
theorem BX.row_spec {P : Program} {x : BX} {cs : List AV} {d : Nat} (h : x.row = some cs) (hx : BXok P G w d x) : ∃ us e, w.heap[G.bx d]? = some (.cells us e (0, 0)) ∧ RelL G.X w cs us.toList := by
 cases x with
 | cells cs' own => cases h; obtain ⟨us, e, h1, h2⟩ := hx; exact ⟨us, e, h1, h2.rel⟩
 | part m cs' => cases h; exact hx
 | map ks vs => cases h
 | ref q => cases h
def St.freeze (s : St) (d : Nat) : Option St :=
 match (lk (s.upd (.f (.b d))).b d).bind BX.row with
 | some cs => some ⟨mapT (frz d cs) (s.upd (.f (.b d))).t, rmk d (s.upd (.f (.b d))).b, (s.upd (.f (.b d))).g⟩
 | _ => none
theorem SR.freeze {s s' : St} {d : Nat} (hI : SR E s.look a w) (h : s.freeze d = some s') : SR E s'.look a w := by
 obtain ⟨G, hI⟩ := hI
 unfold St.freeze at h
 split at h
 ·rename_i cs hb
  cases h
  rw [Option.bind_eq_some_iff] at hb
  obtain ⟨x0, hb, hrow⟩ := hb
  have i0 := hI.forget (.b d)
  rw [← St.look_upd] at i0
  generalize hs0 : s.upd (.f (.b d)) = s0 at *
  have hbd : s0.look.b d = some x0 := hb
  obtain ⟨hX0, hlab, hok0⟩ := i0.bo d _ hbd
  obtain ⟨us, te, hheap, hok⟩ := BX.row_spec hrow hok0
  have i1 := i0.less (Sub.noB s0.look d)
  let X' : Gh := fun b => match decide (b = G.bx d) with | true => none | false => G.X b
  let G' : Gho := { G with X := X' }
  have hXd : X' (G.bx d) = none := by simp [X']
  have hXn : ∀ b, b ≠ G.bx d → X' b = G.X b := fun b hb => by simp [X', hb]
  have hE : Ext G.X w X' w := by
   refine ⟨fun b o u hc hk => ⟨hc, ?_⟩, fun r es k hr hk => ⟨hr, ?_⟩⟩
   ·by_cases e : b = G.bx d
    ·subst e; simp [okc, hXd]
    ·simpa [okc, hXn b e] using hk
   ·by_cases e : r = G.bx d
    ·subst e; exact hXd
    ·rw [hXn r e]; exact hk
  have hlt : G.bx d < w.heap.size := (Array.getElem?_eq_some_iff.1 hheap).1
  have hS : Stp (fun q => q = .box d) w w G G' := by
   refine ⟨rfl, rfl, rfl, Nat.le_refl _, fun b hb hp => ⟨rfl, hXn b (fun e => by subst e; exact hp _ hlab rfl), rfl⟩, hE, fun b hb => (hI.new b hb).2, fun b hb => ?_, fun b q hq => .inl ⟨q, hq⟩, fun _ _ => rfl, fun _ _ => rfl, ⟨fun _ _ => rfl, fun _ _ => rfl⟩⟩
   have := hI.new b hb
   exact ⟨by show X' b = none; rw [hXn b (by omega)]; exact this.1, this.2⟩
  have i2 := i1.step' Av.box hS
  refine ⟨G', i2.size, i2.dfr, i2.fr, i2.old, i2.new, i2.may, i2.pin, ?_, ?_, i2.gr⟩
  ·intro k sv own hk
   have hk' : (lk s0.t k).map (frz d cs) = some (sv, own) := by rw [← Zvk]; exact hk
   rw [Option.map_eq_some_iff] at hk'
   obtain ⟨⟨sv0, own1⟩, h1, h2⟩ := hk'
   obtain ⟨hkn, hr, ho⟩ := i2.tm k sv0 own1 h1
   unfold frz at h2
   split at h2
   ·rename_i k' off hsv
    simp only at hsv
    subst hsv
    split at h2
    ·rename_i hkd
     have := Z3o hkd
     subst this
     cases h2
     refine ⟨hkn, ?_, fun j oe hj => by cases hj⟩
     have hu : a.tmps.getD k undef = .pointer (some ⟨G.bx k', off, none⟩) := hr
     refine ⟨G.bx k', off, hu, ?_⟩
     refine Zgi (X := G.X) hE (cs.drop off) (us.toList.drop off) off (hok.drop off) ?_ ?_
     ·intro j u hj
      rw [List.getElem?_drop] at hj
      rw [Z4u hheap]; simpa using hj
     ·intro j hj
      show okc X' (G.bx k') (off + j)
      simp [okc, hXd]
    ·cases h2; exact ⟨hkn, hr, ho⟩
   ·cases h2; exact ⟨hkn, hr, ho⟩
  ·intro k x hk
   have hk' : lk (rmk d s0.b) k = some x := hk
   rw [Zon] at hk'
   split at hk'
   ·cases hk'
   ·rename_i hne
    exact i2.bo k x (by simp only [Look.noB, if_neg hne]; exact hk')
 ·cases h
def St.lean (s : St) (d m : Nat) : Option St :=
 match lk (s.upd (.f (.b d))).b d with
 | some (.cells cs _) => some ((s.upd (.f (.b d))).upd (.b d (.part m cs)))
 | _ => none
theorem SR.lean {s s' : St} {d m : Nat} (hI : SR E s.look a w) (h : s.lean d m = some s') : SR E s'.look a w := by
 obtain ⟨G, hI⟩ := hI
 unfold St.lean at h
 split at h
 ·rename_i cs own0 hb
  cases h
  have i0 := hI.forget (.b d)
  rw [← St.look_upd] at i0
  generalize hs0 : s.upd (.f (.b d)) = s0 at *
  have hbd : s0.look.b d = some (.cells cs own0) := hb
  obtain ⟨hX0, hlab, us, te, hheap, hok⟩ := i0.bo d _ hbd
  have i1 := i0.less (Sub.noB s0.look d)
  let X' : Gh := fun b => match decide (b = G.bx d) with | true => some m | false => G.X b
  let G' : Gho := { G with X := X' }
  have hXd : X' (G.bx d) = some m := by simp [X']
  have hXn : ∀ b, b ≠ G.bx d → X' b = G.X b := fun b hb => by simp [X', hb]
  have hX0' : G.X (G.bx d) = some 0 := hX0
  have hE : Ext G.X w X' w := by
   refine ⟨fun b o u hc hk => ⟨hc, ?_⟩, fun r es k hr hk => ⟨hr, ?_⟩⟩
   ·by_cases e : b = G.bx d
    ·subst e; simp [okc, hX0'] at hk
    ·simpa [okc, hXn b e] using hk
   ·by_cases e : r = G.bx d
    ·subst e; rw [hX0'] at hk; cases hk
    ·rw [hXn r e]; exact hk
  have hlt : G.bx d < w.heap.size := (Array.getElem?_eq_some_iff.1 hheap).1
  have hS : Stp (fun q => q = .box d) w w G G' := by
   refine ⟨rfl, rfl, rfl, Nat.le_refl _, fun b hb hp => ⟨rfl, hXn b (fun e => by subst e; exact hp _ hlab rfl), rfl⟩, hE, fun b hb => (hI.new b hb).2, fun b hb => ?_, fun b q hq => .inl ⟨q, hq⟩, fun _ _ => rfl, fun _ _ => rfl, ⟨fun _ _ => rfl, fun _ _ => rfl⟩⟩
   have := hI.new b hb
   exact ⟨by show X' b = none; rw [hXn b (by omega)]; exact this.1, this.2⟩
  have i2 := i1.step' Av.box hS
  have i3 := i2.setB (d := d) (x := .part m cs) hXd hlab ⟨us, te, hheap, RelL.mono hE _ _ hok.rel⟩
  rw [Zcf] at i3
  rw [St.look_upd]
  exact ⟨G', i3⟩
 ·cases h
theorem Wc.freeze {K : AE → St → Prop} {c : Code} (d : Nat) (st' : St) (h : st.freeze d = some st') (hc : Wc E c st' K) : Wc E c st K :=
 fun a w hI Q hQ => hc a w (hI.freeze h) Q hQ
theorem Wc.lean {K : AE → St → Prop} {c : Code} (d m : Nat) (st' : St) (h : st.lean d m = some st') (hc : Wc E c st' K) : Wc E c st K :=
 fun a w hI Q hQ => hc a w (hI.lean h) Q hQ
end Go.Bv

namespace Go.Bv
open Go.RowKit
def cI.i64 (x : Int) : List AV := [.int .i64 x]
def cI.u8 (x : Int) : List AV := [.int .u8 x]
def cI.u64 (x : Int) : List AV := [.int .u64 x]
def cB (x : Bool) : List AV := [.bool x]
def cS (x : ByteArray) : List AV := [.str x]
def cL {α : Type} (c : α → List AV) (l : List α) : List AV := [.sl (l.map c)]
theorem cI.i64_len (x : Int) : (cI.i64 x).length = 1 := rfl
theorem cI.i64_leaf (x : Int) : (cI.i64 x).all AV.leaf = true := rfl
theorem cI.u8_len (x : Int) : (cI.u8 x).length = 1 := rfl
theorem Zau (x : ByteArray) : (cS x).length = 1 := rfl
theorem Zh5 (x : ByteArray) : (cS x).all AV.leaf = true := rfl
def bs (l : List UInt8) : ByteArray := ⟨l.toArray⟩
def wr.i64 (x : Int) : Int := IntKind.wrap .i64 x
def wr.u8 (x : Int) : Int := IntKind.wrap .u8 x
def wr.u64 (x : Int) : Int := IntKind.wrap .u64 x
def sEq (x y : ByteArray) : Bool := x.toList == y.toList
inductive Out (R S : Type) where
 | ret (r : R)
 | done (s : S)
theorem Z2d {α β : Type} {x : Option α} {f : α → Option β} {r : β} (h : x.bind f = some r) : ∃ v, x = some v ∧ f v = some r := Option.bind_eq_some_iff.1 h
theorem oif {α : Type} {b : Bool} {x y : Option α} {r : α} (h : (if b = true then x else y) = some r) : (b = true ∧ x = some r) ∨ (b = false ∧ y = some r) := by
 cases b
 ·exact .inr ⟨rfl, h⟩
 ·exact .inl ⟨rfl, h⟩
theorem Z4 {α : Type} {p : Prop} [Decidable p] {x : Option α} {r : α} (h : (if p then x else none) = some r) : p ∧ x = some r := by
 by_cases hp : p
 ·rw [if_pos hp] at h; exact ⟨hp, h⟩
 ·rw [if_neg hp] at h; cases h
def at' {α : Type} (l : List α) (i : Int) : Option α := if 0 ≤ i then l[i.toNat]? else none
theorem Z5y {α : Type} {l : List α} {i : Int} {x : α} (h : at' l i = some x) : 0 ≤ i ∧ l[i.toNat]? = some x := Z4 h
theorem Z11 {α : Type} {c : α → List AV} {l : List α} {i : Int} {x : α} {e : List AV} {s : Nat} (he : c x = e) (hl : ∀ x, (c x).length = s) (h : at' l i = some x) :
  0 ≤ i ∧ (l.map c)[i.toNat]? = some e ∧ e.length = s := by
 obtain ⟨h1, h2⟩ := Z5y h
 refine ⟨h1, ?_, ?_⟩
 ·rw [List.getElem?_map, h2, ← he]; rfl
 ·rw [← he]; exact hl x
theorem Z2 {α : Type} (c : α → List AV) (l : List α) : AV.int .i64 ((l.map c).length : Int) = AV.int .i64 (l.length : Int) := by rw [List.length_map]
def sub3 {α : Type} (l : List α) (lo hi : Int) : List α := (l.take hi.toNat).drop lo.toNat
theorem Zn0 {α : Type} {c : α → List AV} {s : Nat} (hl : ∀ x, (c x).length = s) {l : List α} : ∀ r ∈ l.map c, r.length = s := by
 intro r hr
 obtain ⟨x, _, rfl⟩ := List.mem_map.1 hr
 exact hl x
theorem Z11q {α : Type} (c : α → List AV) (l : List α) (lo : Int) : AV.sl (((l.map c).take ((l.map c).length : Int).toNat).drop lo.toNat) = AV.sl ((sub3 l lo (l.length : Int)).map c) := by
 have h1 : ((l.map c).length : Int).toNat = (l.map c).length := rfl
 have h2 : ((l.length : Int)).toNat = l.length := rfl
 rw [h1, List.take_length]
 simp only [sub3, h2, List.take_length, List.map_drop]
theorem Z2s {α : Type} (c : α → List AV) : ([] : List (List AV)) = List.map c [] := rfl
theorem Z1l {α : Type} {c : α → List AV} {x : α} {l : List α} {e : List AV} {es : List (List AV)} (he : c x = e) (h : es = l.map c) : e :: es = (x :: l).map c := by rw [← he, h]; rfl
theorem Wc.re {E : Env} {st st' : St} {K : AE → St → Prop} {c : Code} (h : st = st') (hc : Wc E c st' K) : Wc E c st K := h ▸ hc
theorem Zhi (s : Nat) (l : List AV) (h : Nat.ble s l.length = true := by rfl) : s ≤ l.length := Nat.le_of_ble_eq_true h
theorem Zk {α : Type} {x : α} (h : (none : Option α) = some x) : False := by cases h
theorem Wc.keep {E : Env} {st : St} {K : AE → St → Prop} {c : Code} (ts bs gs : List Nat) (st' : St) (h : st.keep ts bs gs = some st') (hc : Wc E c st' K) : Wc E c st K :=
 fun a w hI Q hQ => hc a w (hI.keep h) Q hQ
theorem AllP.nil : AllP [] := trivial
theorem AllP.cons {p : Prop} {ps : List Prop} (h : p) (hs : AllP ps) : AllP (p :: ps) := ⟨h, hs⟩
theorem Wc.lastJ {E : Env} {st : St} {K : AE → St → Prop} {c : Code} (R : St → Prop) (h : Wc E c st (fun e st' => match e with | .normal => R st' | e => K e st')) (hy : ∀ st', R st' → K .normal st') : Wc E c st K :=
 h.mono fun e st' hk => by
  cases e with
  | normal => exact hy st' hk
  | exit id => exact hk
  | ret => exact hk
end Go.Bv

namespace Go.Bv
open Go.RowKit
def X0 : Gh := fun _ => none
def Rd (P : Program) (n : Nat) (t : TypeId) {α : Type} (c : α → List AV) (ok : α → Prop) : Prop :=
 ∀ (H : Type) (enc : TypeId × Value → H) (w : World) (sp : Nat → Bool) (cs : List Value) (x : DataW H × List MemPlace), DataW.trod enc P w 0 sp true n t cs = some x → ∃ v, ok v ∧ RelL X0 w (c v) cs
variable {P : Program} {n : Nat} {t : TypeId}
theorem Rd.zero {α : Type} {c : α → List AV} {ok : α → Prop} : Rd P 0 t c ok := by
 intro H enc w sp cs x h
 simp [DataW.trod] at h
theorem Rd.mono {α : Type} {c : α → List AV} {ok ok' : α → Prop} (h : Rd P n t c ok) (hk : ∀ v, ok v → ok' v) : Rd P n t c ok' := by
 intro H enc w sp cs x hx
 obtain ⟨v, h1, h2⟩ := h H enc w sp cs x hx
 exact ⟨v, hk v h1, h2⟩
def okFb (x : Bool) : Prop := True
def okFs (x : ByteArray) : Prop := x.size ≤ maxLen
def okI (k : IntKind) (x : Int) : Prop := k.min ≤ x ∧ x ≤ k.max
def okL {α : Type} (ok : α → Prop) (l : List α) : Prop := l.length ≤ maxLen ∧ ∀ x ∈ l, ok x
theorem Rd.bool (ht : P.underlying t = some .bool) : Rd P n t cB okFb := by
 intro H enc w sp cs x h
 obtain ⟨b, rfl, _⟩ := DataW.trod_bool ht h
 exact ⟨b, trivial, ⟨_, _, rfl, rfl, rfl⟩⟩
theorem Rd.string (ht : P.underlying t = some .string) : Rd P n t cS okFs := by
 intro H enc w sp cs x h
 obtain ⟨s, rfl, _, hs⟩ := DataW.trod_string ht h
 exact ⟨s, hs, ⟨_, _, rfl, rfl, rfl⟩⟩
theorem Rd.i64 (ht : P.underlying t = some (.int .i64)) : Rd P n t cI.i64 (okI .i64) := by
 intro H enc w sp cs x h
 obtain ⟨m, rfl, _, hs⟩ := DataW.trod_int ht h
 simp only [Lit.wf, Bool.and_eq_true, decide_eq_true_eq] at hs
 exact ⟨m, hs, ⟨_, _, rfl, rfl, rfl⟩⟩
theorem Rd.u8 (ht : P.underlying t = some (.int .u8)) : Rd P n t cI.u8 (okI .u8) := by
 intro H enc w sp cs x h
 obtain ⟨m, rfl, _, hs⟩ := DataW.trod_int ht h
 simp only [Lit.wf, Bool.and_eq_true, decide_eq_true_eq] at hs
 exact ⟨m, hs, ⟨_, _, rfl, rfl, rfl⟩⟩
theorem Zok {α β : Type} {f : α → Option β} : ∀ {l : List α} {r : List β}, l.mapM f = some r → r.length = l.length
 | [], r, h => by simp at h; subst h; rfl
 | x :: l, r, h => by
  simp only [List.mapM_cons, Option.bind_eq_bind, Option.bind_eq_some_iff, Option.pure_def, Option.some.injEq] at h
  obtain ⟨y, _, ys, h2, rfl⟩ := h
  simp [Zok h2]
theorem Zol {α β : Type} {f : α → Option β} : ∀ {l : List α} {r : List β}, l.mapM f = some r → ∀ (i : Nat) (x : α), l[i]? = some x → f x = r[i]?
 | [], r, h, i, x, hx => by simp at hx
 | y :: l, r, h, i, x, hx => by
  simp only [List.mapM_cons, Option.bind_eq_bind, Option.bind_eq_some_iff, Option.pure_def, Option.some.injEq] at h
  obtain ⟨z, h1, ys, h2, rfl⟩ := h
  cases i with
  | zero => simp at hx; subst hx; simpa using h1
  | succ i => simpa using Zol h2 i x (by simpa using hx)
theorem cells?_rel {w : World} {a : Addr} {s : Nat} {cs : List Value} (h : w.cells? 0 a (s + 1) = some cs) : cs.length = s + 1 ∧ a.spot = none ∧ Z8c w a.block a.off cs := by
 simp only [World.cells?, Nat.zero_le, if_true] at h
 have hl : cs.length = s + 1 := by
  have h2 := Zok h
  simpa using h2
 have hget : ∀ i, i < s + 1 → w.cell? (a.add i) = cs[i]? := by
  intro i hi
  exact Zol h i i (by rw [List.getElem?_range hi])
 have hspot : a.spot = none := by
  have := hget 0 (by omega)
  rw [List.getElem?_eq_getElem (by omega)] at this
  simp only [Addr.add, if_true, World.cell?] at this
  split at this
  ·split at this
   ·cases this
   ·rename_i hs; cases ha : a.spot <;> simp_all
  ·cases this
 refine ⟨hl, hspot, ?_⟩
 intro j u hj
 have hlt : j < s + 1 := by have := (List.getElem?_eq_some_iff.1 hj).1; omega
 rw [← hget j hlt] at hj
 have : a.add j = ⟨a.block, a.off + j, none⟩ := by
  unfold Addr.add
  split
  ·rename_i e; subst e; cases a; simp_all
  ·rfl
 rwa [this] at hj
theorem Zoa {α : Type} {q : Nat → α → Prop} : ∀ (n k : Nat), (∀ i, i < n → ∃ v, q (k + i) v) → ∃ l : List α, l.length = n ∧ ∀ i v, l[i]? = some v → q (k + i) v
 | 0, k, _ => ⟨[], rfl, by simp⟩
 | n + 1, k, h => by
  obtain ⟨v, hv⟩ := h 0 (by omega)
  obtain ⟨l, h1, h2⟩ := Zoa n (k + 1) (fun i hi => by
   have := h (i + 1) (by omega)
   rwa [show k + (i + 1) = k + 1 + i by omega] at this)
  refine ⟨v :: l, by simp [h1], ?_⟩
  intro i u hu
  cases i with
  | zero => simp at hu; subst hu; exact hv
  | succ i =>
   have := h2 i u (by simpa using hu)
   rwa [show k + (i + 1) = k + 1 + i by omega]
theorem Zrw {w : World} {s b : Nat} : ∀ (rows : List (List AV)) (o : Nat), (∀ c ∈ rows, c.length = s) → (∀ i c, rows[i]? = some c → RelC X0 w b (o + i * s) c) → RelE X0 w s b o rows
 | [], o, _, _ => trivial
 | c :: rows, o, hl, h => by
  refine ⟨hl c (by simp), ?_, Zrw rows (o + s) (fun c hc => hl c (by simp [hc])) (fun i c hi => ?_)⟩
  ·have := h 0 c (by simp)
   simpa using this
  ·have := h (i + 1) c (by simpa using hi)
   rwa [show o + (i + 1) * s = o + s + i * s by rw [Nat.add_mul]; omega] at this
theorem Ext.refl0 {w : World} : Ext X0 w X0 w := Ext.refl _ _
theorem Rd.slice {e : TypeId} {s : Nat} (ht : P.underlying t = some (.slice e)) (hs : P.cellsOf e = s + 1) {α : Type} {c : α → List AV} {ok : α → Prop} (hl : ∀ x, (c x).length = s + 1) (he : ∀ m, m < n → Rd P m e c ok) :
  Rd P n t (cL c) (okL ok) := by
 intro H enc w sp cs x h
 rcases DataW.trod_slice ht h with ⟨rfl, _⟩ | ⟨a, len, cap, elems, rest, m, hm, rfl, rfl, hb, h1, h2, hlen, hel, _, _⟩
 ·exact ⟨[], ⟨by simp, by simp⟩, ⟨_, _, rfl, ⟨none, 0, 0, rfl, rfl, Nat.le_refl _, .inl rfl⟩, rfl⟩⟩
 ·obtain ⟨l, hll, hq⟩ := Zoa (q := fun i v => ok v ∧ (a.add (i * (s + 1))).spot = none ∧ RelC X0 w (a.add (i * (s + 1))).block (a.add (i * (s + 1))).off (c v)) len 0 (by
   intro i hi
   rw [Nat.zero_add]
   have h3 := hel i hi
   rw [List.getElem?_eq_getElem (by omega), Option.bind_eq_some_iff] at h3
   obtain ⟨cs', h4, h5⟩ := h3
   obtain ⟨v, h6, h7⟩ := he m (by omega) H enc w sp cs' _ h5
   rw [hs] at h4
   obtain ⟨hcl, hsp, hat⟩ := cells?_rel h4
   exact ⟨v, h6, hsp, Zgi Ext.refl0 _ _ _ h7 hat (fun j hj => trivial)⟩)
  refine ⟨l, ⟨by omega, ?_⟩, ⟨_, _, rfl, ⟨some a, len, cap, rfl, by simp [hll], h1, ?_⟩, rfl⟩⟩
  ·intro v hv
   obtain ⟨i, hi, rfl⟩ := List.mem_iff_getElem.1 hv
   exact (hq i _ (List.getElem?_eq_getElem hi)).1
  ·cases hlz : l with
   | nil => exact .inl rfl
   | cons v0 l' =>
    right
    rw [← hlz]
    have h0 := hq 0 v0 (by rw [hlz]; rfl)
    have hsp : a.spot = none := by
     have := h0.2.1
     simpa [Addr.add] using this
    refine ⟨a.block, a.off, s + 1, by cases a; simp_all, ?_⟩
    refine Zrw _ _ (Zn0 hl) ?_
    intro i cc hi
    rw [List.getElem?_map, Option.map_eq_some_iff] at hi
    obtain ⟨v, hv, rfl⟩ := hi
    have := (hq i v hv).2.2
    rw [Nat.zero_add] at this
    have e1 : (a.add (i * (s + 1))).block = a.block := by unfold Addr.add; split <;> rfl
    have e2 : (a.add (i * (s + 1))).off = a.off + i * (s + 1) := by
     unfold Addr.add
     split
     ·rename_i e; rw [e]; rfl
     ·rfl
    rwa [e1, e2] at this
theorem Zj2 {X : Gh} {w : World} : ∀ {as bs : List AV} {us vs : List Value}, RelL X w as us → RelL X w bs vs → RelL X w (as ++ bs) (us ++ vs)
 | [], bs, us, vs, h1, h2 => by
  have : us = [] := h1
  subst this; exact h2
 | a :: as, bs, us, vs, ⟨u, r, e, h1, h1'⟩, h2 => by
  subst e
  exact ⟨u, r ++ vs, rfl, h1, Zj2 h1' h2⟩
def tot (P : Program) : List Field → Nat
 | [] => 0
 | f :: fs => P.cellsOf f.type + tot P fs
def RdF (P : Program) (n : Nat) (fs : List Field) (o : Nat) {α : Type} (c : α → List AV) (ok : α → Prop) : Prop :=
 ∀ (H : Type) (enc : TypeId × Value → H) (w : World) (sp : Nat → Bool) (cs : List Value), (∀ f ∈ fs, ∃ x : DataW H × List MemPlace, DataW.trod enc P w 0 sp true n f.type ((cs.drop f.offset).take (P.cellsOf f.type)) = some x) →
  (cs.drop o).length = tot P fs → ∃ v, ok v ∧ RelL X0 w (c v) (cs.drop o)
def cU (_ : Unit) : List AV := []
def okU (_ : Unit) : Prop := True
def cP {α β : Type} (c : α → List AV) (d : β → List AV) (x : α × β) : List AV := c x.1 ++ d x.2
abbrev okP {α β : Type} (ok : α → Prop) (ok' : β → Prop) (x : α × β) : Prop := ok x.1 ∧ ok' x.2
theorem RdF.nil {o : Nat} : RdF P n [] o cU okU := by
 intro H enc w sp cs _ hl
 exact ⟨(), trivial, List.length_eq_zero_iff.1 hl⟩
theorem RdF.cons {f : Field} {fs : List Field} {o s : Nat} {α β : Type} {c : α → List AV} {d : β → List AV} {ok : α → Prop} {ok' : β → Prop} (hoff : f.offset = o) (hs : P.cellsOf f.type = s) (h1 : Rd P n f.type c ok) (h2 : RdF P n fs (o + s) d ok') :
  RdF P n (f :: fs) o (cP c d) (okP ok ok') := by
 intro H enc w sp cs hf hl
 obtain ⟨x, hx⟩ := hf f (by simp)
 obtain ⟨v, hv1, hv2⟩ := h1 H enc w sp _ x hx
 rw [hoff, hs] at hv2
 simp only [tot, hs] at hl
 obtain ⟨u, hu1, hu2⟩ := h2 H enc w sp cs (fun g hg => hf g (by simp [hg])) (by rw [← List.drop_drop, List.length_drop, hl]; omega)
 refine ⟨(v, u), ⟨hv1, hu1⟩, ?_⟩
 have := Zj2 hv2 hu2
 rwa [← List.drop_drop, List.take_append_drop] at this
theorem Rd.struct {fs : Array Field} (ht : P.underlying t = some (.struct fs)) {α β : Type} {c : α → List AV} {ok : α → Prop} {d : β → List AV} {okd : β → Prop} (hF : ∀ m, m < n → RdF P m fs.toList 0 d okd) (htot : P.cellsOf t = tot P fs.toList)
  (mk : β → α) (hc : ∀ b, c (mk b) = d b) (hok : ∀ b, okd b → ok (mk b)) : Rd P n t c ok := by
 intro H enc w sp cs x h
 obtain ⟨xs, m, hm, _, hl, hlen, hf⟩ := DataW.trod_struct ht h
 obtain ⟨v, hv1, hv2⟩ := hF m (by omega) H enc w sp cs (fun f hf' => by
  obtain ⟨i, hi, rfl⟩ := List.mem_iff_getElem.1 hf'
  have hi' : i < fs.size := by simpa using hi
  have := hf i fs[i] (by simp [hi'])
  rw [List.getElem?_eq_getElem (by omega)] at this
  exact ⟨_, by simpa using this⟩) (by rw [List.drop_zero, hl, htot])
 exact ⟨mk v, hok v hv1, by rw [hc]; simpa using hv2⟩
theorem Rd.scalar {α : Type} {a : α → AV} {ok : α → Prop} (h : ∀ n, Rd P n t (fun x => [a x]) ok) {H : Type} {enc : TypeId × Value → H} {w : World} {sp : Nat → Bool} {v : Value} {d : DataW H} {ps : List MemPlace} {base : Nat}
  (ht : ∀ cs, P.underlying t = some (.struct cs) → False) (ht2 : ∀ l cs, P.underlying t = some (.array l cs) → False) (hv : Value.okWide P w .any base t v) (hd : DataW.Trod enc P w 0 sp true t v d ps) : ∃ x, ok x ∧ Rel X0 w (a x) v := by
 obtain ⟨fuel, hd⟩ := hd
 obtain ⟨x, h1, u, r, e, h2, h3⟩ := h fuel H enc w sp _ _ hd
 have : r = [] := h3
 subst this
 refine ⟨x, h1, ?_⟩
 cases v with
 | agg cs =>
  exfalso
  unfold Value.okWide at hv
  split at hv
  ·rename_i fs hh; exact ht _ hh
  ·rename_i l fs hh; exact ht2 _ _ hh
  ·unfold Cell.okWide at hv
   split at hv
   all_goals first | (rename_i hh; cases hh; done) | skip
   all_goals (unfold Cell.ok at hv; split at hv <;> first | exact hv | simp_all)
 | _ =>
  simp only [Value.cells] at e
  simp at e
  subst e
  exact h2
theorem Rd.agg {α : Type} {c : α → List AV} {ok : α → Prop} (h : ∀ n, Rd P n t c ok) {H : Type} {enc : TypeId × Value → H} {w : World} {sp : Nat → Bool} {v : Value} {d : DataW H} {ps : List MemPlace} {base : Nat} {fs : Array Field}
  (ht : P.underlying t = some (.struct fs)) (hv : Value.okWide P w .any base t v) (hd : DataW.Trod enc P w 0 sp true t v d ps) : ∃ x, ok x ∧ Rel X0 w (.agg (c x)) v := by
 obtain ⟨fuel, hd⟩ := hd
 simp only [Value.okWide, ht] at hv
 obtain ⟨cs, rfl, _⟩ := hv
 obtain ⟨x, h1, h2⟩ := h fuel H enc w sp _ _ hd
 exact ⟨x, h1, ⟨cs.toList, by simp, h2⟩⟩
end Go.Bv

namespace Go.Bv
open Go.RowKit Go.ChangeShapes Go.WideShapes
theorem Zfc {H : Type} {enc : TypeId × Value → H} {P : Program} (hl : laidOutB P = true) {W W' : World} {sp : Nat → Bool} (hb : Below W.heap.size W W') :
  ∀ {ts : List TypeId} {vs : List Value} {ds : List (DataW H)} {ps : List MemPlace}, (∀ t ∈ ts, P.readableRec t = true ∧ t < P.types.size) → DataW.TrodAll enc P W 0 (fun _ => true) true ts vs ds ps →
   (∀ p ∈ ps, p.block < W.heap.size) → (∀ p ∈ ps, sp p.block = true) → DataW.TrodAll enc P W' 0 sp true ts vs ds ps
 | [], vs, ds, ps, _, h, _, _ => by
  obtain ⟨rfl, rfl, rfl⟩ := trodAll_nil h
  rfl
 | t :: ts, vs, ds, ps, hr, h, hlt, hs => by
  obtain ⟨v, vs', d, ds', p, q, rfl, rfl, rfl, h1, h2⟩ := trodAll_cons h
  refine ⟨p, q, ?_, Zfc hl hb (fun t ht => hr t (by simp [ht])) h2 (fun x hx => hlt x (by simp [hx])) (fun x hx => hs x (by simp [hx])), rfl⟩
  exact WideElems.Trod_stays hl (hr t (by simp)).1 (hr t (by simp)).2 h1 (fun x hx => hb.same (hlt x (by simp [hx]))) (fun x hx => hs x (by simp [hx]))
theorem Zv1 {H : Type} {enc : TypeId × Value → H} {P : Program} {fn : Func} {s : ChangeSpec} {W W' : World} {args : Array Value} {ds gs : List (DataW H)} {before : List MemPlace} {tb : TypeId}
  (hl : laidOutB P = true) (hr : ∀ t ∈ fn.params.toList, P.readableRec t = true ∧ t < P.types.size) (hres : fn.resultTypes = #[tb]) (hb : P.underlying tb = some .bool) (hvars : s.vars = [])
  (hspec : ∀ ds : List (DataW H), ds.length = fn.params.size → s.fn H ds = { results := [.lit (.bool true)], args := ds })
  (hW : DataW.Whole enc P fn.params.toList s.vars false W args.toList ds gs before) (hbel : Below W.heap.size W W') :
  s.post enc P fn false true false false W args (.bool true) W' := by
 have hW' := hW
 obtain ⟨p, q, hA, hV, rfl, hfz, hnd⟩ := hW
 rw [hvars] at hV
 obtain ⟨rfl, rfl⟩ := trodVars_none hV
 have hlen : ds.length = fn.params.size := by
  have : ∀ {ts : List TypeId} {vs : List Value} {ds : List (DataW H)} {ps : List MemPlace}, DataW.TrodAll enc P W 0 (fun _ => true) true ts vs ds ps → ds.length = ts.length := by
   intro ts
   induction ts with
   | nil => intro vs ds ps h; obtain ⟨_, rfl, _⟩ := trodAll_nil h; rfl
   | cons t ts ih => intro vs ds ps h; obtain ⟨v, vs', d, ds', p, q, rfl, rfl, rfl, h1, h2⟩ := trodAll_cons h; simp [ih h2]
  simpa using this hA
 have hfn : s.fn H (ds ++ []) = { results := [.lit (.bool true)], args := ds } := by rw [List.append_nil]; exact hspec ds hlen
 have hlt : ∀ x ∈ p, x.block < W.heap.size := fun x hx => by have := hW'.lt x (by simp [hx]); simpa using this
 have hargs : ∀ sp : Nat → Bool, (∀ x ∈ p, sp x.block = true) → DataW.TrodAll enc P W' 0 sp true fn.params.toList args.toList (s.fn H (ds ++ [])).args p := by
  intro sp hsp
  rw [hfn]
  exact Zfc hl hbel hr hA hlt hsp
 have hvs : ∀ sp : Nat → Bool, DataW.TrodVars enc P W' sp s.vars (s.fn H (ds ++ [])).vars [] := by
  intro sp
  rw [hfn, hvars]; rfl
 have hrs : ∀ (b : Nat) (sp : Nat → Bool) (hd : Bool), DataW.TrodAll enc P W' b sp hd fn.resultTypes.toList ((Value.bool true).resultList fn.resultTypes.size) (s.fn H (ds ++ [])).results [] := by
  intro b sp hd
  rw [hfn, hres]
  exact trodAll_mk1 (shut_bool hb true)
 refine ⟨ds, [], p ++ [], [], p, [], hW', hrs _ _ _, hargs _ (fun x hx => by simpa using hlt x hx), hvs _, World.keptBut_mono (fun x hx => ⟨hx, ?_⟩) (hbel.frame (· ∈ p ++ [])), fun _ => ?_⟩
 ·rw [List.append_nil] at hx; exact Or.inr (Or.inl hx)
 ·refine ⟨ok_one hres rfl (okWide_bool_mk hb true), _, _, ([] ++ p) ++ [], ⟨[] ++ p, [], trodAll_append (hargs _ (fun _ _ => rfl)) (hrs _ _ _), hvs _, rfl, ?_, ?_⟩, ?_⟩
  ·intro b off hp
   have hp' : MemPlace.cell b off ∈ p ++ [] := by simpa using hp
   have hb' : b < W.heap.size := hlt (.cell b off) (by simpa using hp)
   rw [hbel.frozen (p := ⟨b, off, none⟩) hb']
   exact hfz b off hp'
  ·intro ha; cases ha
  ·intro x hx _
   simpa using hx
end Go.Bv

namespace Go.Bv
open Go.RowKit
theorem Z4w {x : Int} (h1 : -9223372036854775808 ≤ x) (h2 : x ≤ 9223372036854775807) : wr.i64 x = x := by
 unfold wr.i64 IntKind.wrap
 simp [IntKind.signed, IntKind.bits]
 omega
theorem Z12x {α : Type} (l : List α) (n : Nat) : at' l (n : Int) = l[n]? := by
 unfold at'
 rw [if_pos (by omega)]
 simp
theorem Z4c {α : Type} {l : List α} {n : Nat} (h : n < l.length) : at' l (n : Int) = some l[n] := by
 rw [Z12x, List.getElem?_eq_getElem h]
theorem Zl : maxLen = 9223372036854775807 := by decide
theorem Z3v {n m : Nat} (h : n < m) (hm : m ≤ maxLen) : wr.i64 ((n : Int) + 1) = ((n + 1 : Nat) : Int) := by
 rw [Zl] at hm
 rw [Z4w (by omega) (by omega)]
 omega
theorem Zax {x y : ByteArray} : sEq x y = true ↔ x = y := by
 unfold sEq
 rw [beq_iff_eq]
 constructor
 ·intro h
  have h1 : x.data.toList = y.data.toList := by
   have e : ∀ z : ByteArray, z.toList = z.data.toList := fun z => by rw [ByteArray.toList_eq]
   rw [e, e] at h; exact h
  cases x; cases y
  congr 1
  exact Array.toList_inj.1 h1
 ·rintro rfl; rfl
theorem Z6u (x : ByteArray) : sEq x x = true := Zax.2 rfl
def Small : Int := 1048576
end Go.Bv

namespace Go.Bv
open Go.RowKit
theorem Fr.below {w w' : World} (h : Fr (fun b => ∃ q : Nat × Nat, (none : Option (Nat × Nat)) = some q) w w') : Below w.heap.size w w' :=
 ⟨h.os, h.tape, h.output, h.size, fun b hb => h.block b hb (fun ⟨q, hq⟩ => by cases hq)⟩
theorem Z118 (x : ByteArray) : (cS x).all Zcx = true := rfl
section
variable {α : Type} {c : α → List AV} {l : List α} {i : Nat} {x nx : α} {e e' new : List AV} {sz off s o : Nat} {ag : Bool} {v : AV}
theorem Zqp (he : c x = e) (hx : l[i]? = some x) : (l.map c)[i]? = some e := by rw [List.getElem?_map, hx, ← he]; rfl
theorem Zp2 (he : c x = e) (hx : l[i]? = some x) (h1 : e.length = sz) (h2 : off + s ≤ e.length) (h3 : Z7p ag ((e.drop off).take s) = some v) :
  ∃ r, (l.map c)[i]? = some r ∧ r.length = sz ∧ off + s ≤ r.length ∧ Z7p ag ((r.drop off).take s) = some v := ⟨e, Zqp he hx, h1, h2, h3⟩
theorem Zrm (he : c x = e) (hx : l[i]? = some x) (h1 : e.length = sz) (h2 : off + s ≤ e.length) : ∃ r, (l.map c)[i]? = some r ∧ r.length = sz ∧ off + s ≤ r.length := ⟨e, Zqp he hx, h1, h2⟩
theorem Zhj {m : Int} (hl : ∀ x, (c x).length = s) (h : at' l m = some x) : 0 ≤ m ∧ ∃ r, (l.map c)[m.toNat]? = some r ∧ r.length = s := by
 obtain ⟨h1, h2⟩ := Z5y h
 exact ⟨h1, c x, Zqp rfl h2, hl x⟩
theorem Zmy (he : c x = e) (hn : c nx = e') (hx : l[i]? = some x) (h : setAll e off new = e') : (l.map c).modify i (fun r => setAll r off new) = (l.set i nx).map c := by
 apply List.ext_getElem?
 intro j
 rw [List.getElem?_modify, List.getElem?_map, List.getElem?_map, List.getElem?_set]
 by_cases hij : i = j
 ·subst hij
  have hlt : i < l.length := (List.getElem?_eq_some_iff.1 hx).1
  simp only [if_true, hx, if_pos hlt]
  show some (setAll (c x) off new) = some (c nx)
  rw [he, h, hn]
 ·simp only [if_neg hij]
  cases l[j]? <;> rfl
theorem Z30 (c : α → List AV) (xs ys : List α) : xs.map c ++ ys.map c = (xs ++ ys).map c := by rw [List.map_append]
theorem Zss {ys : List α} (hf : ∀ x, (c x).all AV.leaf = true) : ∀ r ∈ ys.map c, r.all AV.leaf = true := by
 intro r hr; obtain ⟨x, _, rfl⟩ := List.mem_map.1 hr; exact hf x
theorem Zyq {ys : List α} (hf : ∀ x, (c x).all Zcx = true) : ∀ r ∈ ys.map c, r.all Zcx = true := by
 intro r hr; obtain ⟨x, _, rfl⟩ := List.mem_map.1 hr; exact hf x
theorem Zim {xs ys : List α} (hl : ∀ x, (c x).length = s) (h : xs.length + ys.length ≤ 1073741824) :
  (xs.map c).length + (ys.map c).length ≤ 1073741824 ∧ (∀ r ∈ xs.map c, r.length = s) ∧ ∀ r ∈ ys.map c, r.length = s :=
 ⟨by rw [List.length_map, List.length_map]; exact h, Zn0 hl, Zn0 hl⟩
theorem Zh9 (c : α → List AV) (ys : List α) : ([] : List (List AV)) ++ ys.map c = ys.map c := rfl
theorem Zwt (ns : List Int) : ∃ ms : List Int, ns.map cI.u8 = ms.map (fun n => [.int .u8 n]) ∧ strOfNums ns = strOfNums ms := ⟨ns, rfl, rfl⟩
theorem Zro {lo : Int} (hl : ∀ x, (c x).length = s) (h : 0 ≤ lo ∧ lo ≤ (l.length : Int) ∧ (l.length : Int) ≤ (l.length : Int)) :
  0 ≤ lo ∧ lo ≤ ((l.map c).length : Int) ∧ ((l.map c).length : Int) ≤ ((l.map c).length : Int) ∧ (∀ r ∈ l.map c, r.length = s) ∧ AV.sl (((l.map c).take ((l.map c).length : Int).toNat).drop lo.toNat) = AV.sl ((sub3 l lo (l.length : Int)).map c) :=
 ⟨h.1, by rw [List.length_map]; exact h.2.1, Int.le_refl _, Zn0 hl, Z11q c l lo⟩
theorem Zgf {α : Type} (c : α → List AV) (l : List α) (m : Int) : (l.map c).take m.toNat = (l.take m.toNat).map c := List.map_take.symm
theorem Zdv {m : Int} (h : 0 ≤ m ∧ m ≤ (l.length : Int)) : 0 ≤ m ∧ m ≤ ((l.map c).length : Int) := by rw [List.length_map]; exact h
theorem Zv2 {lo : Int} (h : 0 ≤ lo ∧ lo ≤ (l.length : Int) ∧ (l.length : Int) ≤ (l.length : Int)) : 0 ≤ lo ∧ lo ≤ ((l.map c).length : Int) ∧ ((l.map c).length : Int) ≤ ((l.map c).length : Int) := by rw [List.length_map]; exact h
end
instance (x y : ByteArray) : Decidable (Z36 x y) := by unfold Z36; infer_instance
def anyO : OwnL → OwnL
 | [] => []
 | (j, .ex _ dp xs) :: l => (j, .ex anyT dp xs) :: anyO l
 | q :: l => q :: anyO l
def AD.any : AD → AD
 | .io x own => .io x (anyO own)
 | .v x own => .v x own
 | .q off m cs own => .q off m cs own
theorem Zfx {j : Nat} {oe : OE} : ∀ {own : OwnL}, (j, oe) ∈ anyO own → (j, oe) ∈ own ∨ ∃ e dp xs, oe = .ex anyT dp xs ∧ (j, OE.ex e dp xs) ∈ own
 | [], h => by cases h
 | (k, x) :: l, h => by
  cases x with
  | ex e dp xs =>
   rcases List.mem_cons.1 h with h | h
   ·cases h; exact .inr ⟨e, dp, xs, rfl, by simp⟩
   ·rcases Zfx h with h | ⟨e, dp, xs, h1, h2⟩
    ·exact .inl (by simp [h])
    ·exact .inr ⟨e, dp, xs, h1, by simp [h2]⟩
  | app e =>
   rcases List.mem_cons.1 h with h | h
   ·cases h; exact .inl (by simp)
   ·rcases Zfx h with h | ⟨e, dp, xs, h1, h2⟩
    ·exact .inl (by simp [h])
    ·exact .inr ⟨e, dp, xs, h1, by simp [h2]⟩
  | al p π =>
   rcases List.mem_cons.1 h with h | h
   ·cases h; exact .inl (by simp)
   ·rcases Zfx h with h | ⟨e, dp, xs, h1, h2⟩
    ·exact .inl (by simp [h])
    ·exact .inr ⟨e, dp, xs, h1, by simp [h2]⟩
  | sb p π lo sz n =>
   rcases List.mem_cons.1 h with h | h
   ·cases h; exact .inl (by simp)
   ·rcases Zfx h with h | ⟨e, dp, xs, h1, h2⟩
    ·exact .inl (by simp [h])
    ·exact .inr ⟨e, dp, xs, h1, by simp [h2]⟩
theorem AIn.any {P : Program} {X : Gh} {w : World} {lab : Lab} {i : Nat} {q : AD} {u : Value} (h : AIn P X w lab i q u) : AIn P X w lab i q.any u := by
 cases q with
 | v x own => exact h
 | q off m cs own => exact h
 | io x own =>
  refine ⟨h.1, fun j oe hj => ?_⟩
  rcases Zfx hj with hj | ⟨e, dp, xs, rfl, hj'⟩
  ·exact h.2 j oe hj
  ·obtain ⟨_, c, F, h1, ⟨e', sz, us, F', h0, hr⟩, h3⟩ := h.2 j _ hj'
   exact ⟨rfl, c, F, h1, ⟨e', sz, us, F', .inr rfl, hr⟩, h3⟩
theorem AIns.any {P : Program} {X : Gh} {w : World} {lab : Lab} : ∀ {i : Nat} {qs : List AD} {us : List Value}, AIns P X w lab i qs us → AIns P X w lab i (qs.map AD.any) us
 | i, [], us, h => h
 | i, q :: qs, us, ⟨u, r, e, h1, h2⟩ => ⟨u, r, e, h1.any, h2.any⟩
theorem FnO.any {P : Program} {f : Nat} {args : List AD} {r : AD} {outs : List (Nat × AD)} (h : FnO P f (args.map AD.any) r outs) : FnO P f args r outs :=
 fun X w us lab hin hX => h X w us lab hin.any hX
end Go.Bv

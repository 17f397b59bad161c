/- Values of calls, told abstractly, with what is held: part 3. -/
import Derived.Test.YtbchncaolapbhaaGreatDoorAvb
import Derived.WideMake
import Derived.Laws.StructEq
import Derived.Laws.BytesArg
import Derived.ChangeArms
import Derived.ProofKit
set_option linter.unusedVariables false
set_option linter.unusedSimpArgs false
namespace Go.Bv
open Go.RowKit
variable {E : Env} {P : Program} {n : Nat} {L L1 L2 : Look} {a : Act} {w w' : World} {G : Gho} {D D' : LP → Prop} {o : Oper} {d : Nat} {h : Hint} {ups : List Upd} {obs : List Prop}
def resT (d : Nat) : LP → LP
  | .arg 0 (j + 1) => .own (.t d j)
  | .own (.t k j) => if k = d then .arg 0 0 else .own (.t k j)
  | l => l
def resB (d : Nat) : LP → LP
  | .arg 0 (j + 1) => .own (.b d j)
  | .arg 0 0 => .box d
  | .own (.b k j) => if k = d then .arg 1 0 else .own (.b k j)
  | .box k => if k = d then .arg 1 0 else .box k
  | l => l
def pvRes (pv : OP → Value) (d : Nat) (us : List Value) : OP → Value
  | .t k j => if k = d then (us[j]?).getD undef else pv (.t k j)
  | p => pv p
theorem Own.relab {f : LP → LP} {pv' : OP → Value} {p : OP} {oe : OE} {u : Value} {F : List Nat} (hw : oe.owner = true) (hr : Rs P G.X w oe u F) (hF : ∀ b ∈ F, ∃ l, G.lab b = some l ∧ f l = .own p) (hpv : pv' p = u) : Own P (G.relab f pv') w p oe u := by
  have key : (G.relab f pv').pv p = u ∧ ∃ F, Rs P (G.relab f pv').X w oe u F ∧ ∀ b ∈ F, (G.relab f pv').lab b = some (.own p) :=
    ⟨hpv, F, hr, fun b hb => by obtain ⟨l, h1, h2⟩ := hF b hb; simp [Gho.relab, h1, h2]⟩
  cases oe with
  | app e => exact key
  | ex e dp xs => exact key
  | al q π => cases hw
  | sb q π lo sz n => cases hw
theorem after_rs {X' : Gh} {lab' : Lab} {back : Nat × Nat → LP} {bx' : Nat → Nat} {pv' : OP → Value} {bor : Bool} (hI : Inv E L a w G) (hold : ∀ b, b < w.heap.size → argLab G b = none → X' b = G.seenX bor b ∧ lab' b = none) {oe : OE} {u : Value} {F : List Nat} (h : Rs P X' w' oe u F) (hl : ∀ b ∈ F, ∃ q, lab' b = some q) (hbor : bor = true → ∃ e xs, oe = .ex e true xs) :
    Rs P (G.after bor X' lab' back bx' pv').X w' oe u F := by
  have hX : ∀ b ∈ F, (G.after bor X' lab' back bx' pv').X b = X' b := fun b hb => by obtain ⟨q, hq⟩ := hl b hb; exact after_X hI hold hq
  cases hb : bor with
  | false =>
    have : (G.after false X' lab' back bx' pv').X = X' := funext fun b => after_open rfl
    rw [this]; exact h
  | true =>
    obtain ⟨e, xs, rfl⟩ := hbor hb
    obtain ⟨e', sz, us, F', h0, h1, h2, h3, h4, rfl, h6, h7⟩ := h
    exact ⟨e', sz, us, F', h0, h1, h2, h3, h4, rfl, h6, fun b hb' => by rw [← hb]; exact (hX b hb').trans (h7 b hb')⟩
theorem s_call (hI : Inv E L a w G) (hd : o.dst = some d) (hlt : d < E.n) {c : Call} (ho : o.op = .call c) {g : Operand} (hg : c.callee = .value g) (hop : oCall E.P L d g c.args.toList h = some (ups, obs)) (hob : ∀ p ∈ obs, p) : Does E L o a w ups := by
  unfold oCall at hop
  split at hop
  · rename_i f caps r hgv hr
    split at hop
    · rename_i L1 us1 gs k ob1 hbody hhand
      split at hop
      · rename_i ads bor ob2 us2 ob3 hargs hout
        split at hop
        · rename_i hdry
          have hbody := of_decide_eq_true hbody
          -- whatever the result is
          have main : ∀ (obs : List Prop), obs = ob1 ++ ob2 ++ ob3 ++ [FnO E.P f (ads ++ caps.map fun c => .v c []) r h.outs] → (∀ p ∈ obs, p) →
              (∀ (w' : World) (G2 : Gho) (X' : Gh) (lab' : Lab) (u : Value), Inv E ((L.upds us1).upds us2) a w' G2 → AIn E.P X' w' lab' 0 r u →
                (∀ x, Rel X' w' x u → (bor = true → dryV x = true) → Rel G2.X w' x u) → (∀ xs us, RelL X' w' xs us → (bor = true → xs.all AV.dry1 = true) → RelL G2.X w' xs us) →
                (∀ b j, lab' b = some (0, j) → G2.lab b = some (.arg 0 j) ∧ G2.X b = X' b) →
                (∀ oe v F, Rs E.P X' w' oe v F → (∀ b ∈ F, ∃ q, lab' b = some q) → (bor = true → ∃ e xs, oe = .ex e true xs) → Rs E.P G2.X w' oe v F) → (bor = true → dryAD r = true) → SR E (L.upds ups) (a.put (some d) u) w') → Does E L o a w ups := by
            intro obs hobs hob hres
            subst hobs
            obtain ⟨G1, D, h1, h2, i1, hfl, hB⟩ := handOver_spec hI hhand (fun p hp => hob p (by simp [hp]))
            obtain ⟨hA1, hA2⟩ := argsOf_spec i1 _ _ 0 _ _ _ hargs (fun p hp => hob p (by simp [hp])) hfl
            obtain ⟨us, hu, hrc⟩ := evV_rel hI hgv
            have hrc1 : RelL G1.X w caps us := RelL.mono h1.ext _ _ hrc
            have hF : FnO E.P f (ads ++ caps.map fun c => .v c []) r h.outs := hob _ (by simp)
            have hAI : AIns E.P (G1.seenX bor) w (argLab G1) 0 (ads ++ caps.map fun c => .v c []) (c.args.toList.map a.eval ++ us) := by
              cases hb : bor with
              | false => exact (hA2 hb).append (AIns.plain hrc1)
              | true => exact hA1.append (AIns.plain (RelL.mono open_ext _ _ hrc1))
            intro Q
            unfold Oper.wp
            have hexec : (execOp a.eval o).run E.P w = .ok (.enter f (c.args.toList.map a.eval ++ us).toArray) w := by
              simp only [execOp, ho, Sem.run_bind]
              simp [resolve, hg, Deferred.ofValue, hu, invoke, run_callFunc hbody]
            rw [hexec, Oper.upon_enter]
            refine (hF (G1.seenX bor) w _ (argLab G1) hAI (fun b hb => ?_) (E.gt.on i1.fr (fun b hb hq => ?_))).mono ?_
            · obtain ⟨n1, n2⟩ := i1.new b hb
              refine ⟨?_, by simp [argLab, n2]⟩
              cases bor with
              | false => exact n1
              | true => simp [Gho.seenX, Gho.open, n2, n1]
            · obtain ⟨q, hq⟩ := hq
              rcases i1.may b _ (argLab_some hq).1 with h | h
              · omega
              · exact h
            · rintro e w1 ⟨u, X', lab', rfl, hfr, hold, hnew, hin, houts⟩
              show SR E _ (a.put o.dst u) w1
              rw [hd]
              have hdr : bor = true → dryAD r = true ∧ ∀ q ∈ h.outs, dryAD q.2 = true := fun hb => by
                simp only [dryOuts, hb, Bool.not_true, Bool.false_or, Bool.and_eq_true, List.all_eq_true] at hdry
                exact hdry
              have i2 := outUps_spec i1 hB hout (fun p hp => hob p (by simp [hp])) hfr hold hnew houts (fun hb => (hdr hb).2)
              exact hres w1 _ X' lab' u i2 hin (fun x hx hb => after_rel hx hb) (fun xs us hx hb => after_relL hx hb) (fun b j hl => ⟨after_lab hl, after_X i1 hold hl⟩) (fun oe v F hr hl hb => after_rs i1 hold hr hl hb) (fun hb => (hdr hb).1)
          cases r with
          | io x own => cases hop
          | v x own =>
            simp only [] at hop
            split at hop
            · rename_i hno
              cases hop
              refine main _ rfl hob ?_
              intro w' G2 X' lab' u i2 hin hrel hrelL hlab hrs hdr
              obtain ⟨hx, hent⟩ := hin
              obtain ⟨i3, a3⟩ := i2.fresh hlt
              have hS : Stp (fun q => DR (.t d) q ∨ ∃ i j, q = .arg i j) w' w' G2 (G2.relab (resT d) (pvRes G2.pv d (Value.flat u))) := by
                refine Stp.relab i2 (fun l hl => ?_) (fun p hp => ?_) (fun i j => rfl)
                · cases l with
                  | arg i j => exact absurd (.inr ⟨_, _, rfl⟩) hl
                  | own p =>
                    cases p with
                    | t q j => have : q ≠ d := fun e => hl (.inl e); simp [resT, this]
                    | _ => rfl
                  | _ => rfl
                · cases p with
                  | t q j => have : q ≠ d := fun e => hp (.inl e); simp [pvRes, this]
                  | _ => rfl
              have i4 := i3.step' (a3.or (Av.args _)) hS
              have i5 := i4.setT hlt (sv := .v x) (own := own) (u := u) (hrel x hx (fun hb => by have := hdr hb; simp only [dryAD, Bool.and_eq_true] at this; exact this.1)) (fun j oe hj => by
                obtain ⟨hw, c', F, hc, hr1, hr2⟩ := hent j oe hj
                refine ⟨c', hc, Own.relab hw (hrs oe c' F hr1 (fun b hb => ⟨_, hr2 b hb⟩) (fun hb => by have := hdr hb; simp only [dryAD, Bool.and_eq_true] at this; exact deepL_spec this.2 j oe hj)) (fun b hb => ⟨_, (hlab b _ (hr2 b hb)).1, rfl⟩) ?_⟩
                simp [pvRes, hc])
              have e : L.upds (us1 ++ us2 ++ fresh d ++ [.t d (.v x, own)]) = (((L.upds us1).upds us2).upds (fresh d)).upd (.t d (.v x, own)) := by simp only [Look.upds, List.foldl_append, List.foldl_cons, List.foldl_nil]
              rw [e]
              exact ⟨_, i5⟩
            · cases hop
          | p cs own =>
            simp only [] at hop
            cases hop
            refine main _ rfl hob ?_
            intro w' G2 X' lab' u i2 hin hrel hrelL hlab hrs hdr
            obtain ⟨b, us, e, rfl, hl, hX, hheap, hcs, hent⟩ := hin
            obtain ⟨i3, a3⟩ := i2.clearB d
            obtain ⟨hl2, hX2⟩ := hlab b 0 hl
            let bx' : Nat → Nat := fun k => if k = d then b else G2.bx k
            let G3 : Gho := { G2.relab (resB d) (pvB G2.pv d us.toList) with bx := bx' }
            have hS : Stp (fun q => DR (.bp d) q ∨ ∃ i j, q = .arg i j) w' w' G2 G3 := by
              have := Stp.relab (D := fun q => DR (.bp d) q ∨ ∃ i j, q = .arg i j) i2 (f := resB d) (pv' := pvB G2.pv d us.toList) (fun l hl => by
                  cases l with
                  | arg i j => exact absurd (.inr ⟨_, _, rfl⟩) hl
                  | own p =>
                    cases p with
                    | b q j => have : q ≠ d := fun e => hl (.inl e); simp [resB, this]
                    | _ => rfl
                  | box q => have : q ≠ d := fun e => hl (.inl e); simp [resB, this]
                  | _ => rfl) (fun p hp => pvB_ne (fun hh => hp (.inl hh))) (fun i j => rfl)
              exact ⟨this.os, this.tape, this.output, this.size, this.same, this.ext, this.was, this.new, this.may, fun k hk => by
                have : k ≠ d := fun e => hk (.inl e)
                simp [G3, bx', this], this.pv, ⟨this.pin.1, fun k hk => by
                have := i2.pin.2.1
                have : k ≠ d := by omega
                simp [G3, bx', this]⟩⟩
            have i4 := i3.step' (a3.or (Av.args _)) hS
            have hbx : G3.bx d = b := by simp [G3, bx']
            have i5 := i4.setB (d := d) (x := .cells cs own) (by rw [hbx]; show G2.X b = _; rw [hX2, hX]) (by
                rw [hbx]; show (G2.lab b).map (resB d) = _; rw [hl2]; rfl) ⟨us, e, by rw [hbx]; exact hheap, hrelL cs us.toList hcs (fun hb => by have := hdr hb; simp only [dryAD, Bool.and_eq_true] at this; exact this.1), fun j oe hj => by
                obtain ⟨hw, c', F, hc, hr1, hr2⟩ := hent j oe hj
                refine ⟨c', by simpa using hc, ?_⟩
                have := Own.relab (P := E.P) (G := G2) (w := w') (f := resB d) (pv' := pvB G2.pv d us.toList) (p := .b d j) hw (hrs oe c' F hr1 (fun b hb => ⟨_, hr2 b hb⟩) (fun hb => by have := hdr hb; simp only [dryAD, Bool.and_eq_true] at this; exact deepL_spec this.2 j oe hj)) (fun b hb => ⟨_, (hlab b _ (hr2 b hb)).1, rfl⟩) (pvB_eq hc)
                cases oe with
                | app e => exact this
                | ex e dp xs => exact this
                | al q π => cases hw
                | sb q π lo sz n => cases hw⟩
            have i6 := i5.setT hlt (sv := .ptr d 0) (own := []) (u := .pointer (some ⟨b, 0, none⟩)) (by rw [RelS, hbx]) (fun j oe hj => by cases hj)
            have e : L.upds (us1 ++ us2 ++ [.f (.bp d), .b d (.cells cs own), .t d (.ptr d 0, [])]) = ((((L.upds us1).upds us2).upd (.f (.bp d))).upd (.b d (.cells cs own))).upd (.t d (.ptr d 0, [])) := by simp [Look.upds, List.foldl_append]
            rw [e]
            rw [noB_upd] at i6
            exact ⟨_, i6⟩
        · cases hop
      · cases hop
    · cases hop
  · cases hop
def mgk (l : List (Int × Int)) : List AV := l.map fun p => .int .i64 p.1
def mgv (l : List (Int × Int)) : List AV := l.map fun p => .int .i64 p.2
def mget : List (Int × Int) → Int → Int
  | [], _ => 0
  | p :: l, k => if p.1 = k then p.2 else mget l k
def mset : List (Int × Int) → Int → Int → List (Int × Int)
  | [], k, v => [(k, v)]
  | p :: l, k, v => if p.1 = k then (k, v) :: l else p :: mset l k v
def isMapI (P : Program) (T : TypeId) : Option (TypeId × TypeId) :=
  match P.underlying T with
  | some (.map kt et) => match P.underlying kt, P.info? et with
    | some (.int .i64), some i => match i.zero with
      | some (.int .i64 z) => match decide (z = 0) with | true => some (kt, et) | false => none
      | _ => none
    | _, _ => none
  | _ => none
theorem isMapI_spec {T kt et : TypeId} (h : isMapI P T = some (kt, et)) : P.underlying T = some (.map kt et) ∧ P.underlying kt = some (.int .i64) ∧ ∃ i, P.info? et = some i ∧ i.zero = some (.int .i64 0) := by
  unfold isMapI at h
  split at h
  · rename_i k e hm
    split at h
    · rename_i i h1 h2
      split at h
      · rename_i z hz
        split at h
        · rename_i hd; cases h; have := of_decide_eq_true hd; subst this; exact ⟨hm, h1, i, h2, hz⟩
        · cases h
      · cases h
    · cases h
  · cases h
def oMakeMap (d : Nat) (r : Option Operand) : Ans :=
  match r with
  | none => some ([.f (.bp d), .b d (.map [] []), .t d (.mp d, [])], [])
  | some _ => none
def oLookup (P : Program) (L : Look) (d : Nat) (T : TypeId) (x i : Operand) (ok : Bool) (h : Hint) : Ans :=
  match ok, isMapI P T, ev L x, evV L i, h.v with
  | false, some _, some (.mp k, _), some (.int .i64 n), some v => match L.b k with
    | some (.map ks vs) => some (fresh d ++ [.t d (.v v, [])], [∃ l, ks = mgk l ∧ vs = mgv l ∧ v = .int .i64 (mget l n)])
    | _ => none
  | false, some _, some (.v (.mp ks vs), _), some (.int .i64 n), some v => some (fresh d ++ [.t d (.v v, [])], [∃ l, ks = mgk l ∧ vs = mgv l ∧ v = .int .i64 (mget l n)])
  | _, _, _, _, _ => none
def oMapUpdate (P : Program) (L : Look) (T : TypeId) (x i y : Operand) (h : Hint) : Ans :=
  match isMapI P T, ev L x, evV L i, evV L y, h.c with
  | some _, some (.mp k, _), some (.int .i64 n), some (.int .i64 m), some [ks', vs'] => match L.b k with
    | some (.map ks vs) => some ([.b k (.map ks' vs')], [∃ l, ks = mgk l ∧ vs = mgv l ∧ ks' = mgk (mset l n m) ∧ vs' = mgv (mset l n m)])
    | _ => none
  | _, _, _, _, _ => none
theorem relL_ints {X : Gh} {f : Int × Int → Int} : ∀ {l : List (Int × Int)} {us : List Value}, RelL X w (l.map fun p => .int .i64 (f p)) us ↔ us = l.map fun p => Value.int .i64 (f p)
  | [], us => by simp [RelL]
  | p :: l, us => by
    simp only [List.map_cons, RelL]
    constructor
    · rintro ⟨u, r, rfl, h1, h2⟩
      rw [relL_ints.1 h2, show u = .int .i64 (f p) from h1]
    · intro e
      exact ⟨_, _, e, rfl, relL_ints.2 rfl⟩
theorem findNow_get {n y : Int} : ∀ (es : List MapEntry) (l : List (Int × Int)) (i : Nat), es.map MapEntry.key = l.map (fun p => Value.int .i64 p.1) → es.map MapEntry.val = l.map (fun p => Value.int .i64 p.2) →
    (∃ j, Instr.findNow (.int .i64) (.int .i64 n) es i = some (some (i + j, .int .i64 (mget l n))) ∧ mset l n y = l.set j (n, y) ∧ j < l.length ∧ (l[j]?).map Prod.fst = some n) ∨
    (Instr.findNow (.int .i64) (.int .i64 n) es i = some none ∧ mget l n = 0 ∧ mset l n y = l ++ [(n, y)])
  | [], [], i, _, _ => .inr ⟨rfl, rfl, rfl⟩
  | [], p :: l, i, h, _ => by simp at h
  | e :: es, [], i, h, _ => by simp at h
  | e :: es, p :: l, i, hk, hv => by
    simp only [List.map_cons, List.cons.injEq] at hk hv
    by_cases hp : p.1 = n
    · refine .inl ⟨0, ?_, ?_, by simp, by simp [hp]⟩
      · simp [Instr.findNow, hk.1, Instr.sameNow, hp, hv.1, mget]
      · simp [mset, hp]
    · have hne : (n == p.1) = false := by rw [beq_eq_false_iff_ne]; exact fun e => hp e.symm
      rcases findNow_get (n := n) (y := y) es l (i + 1) hk.2 hv.2 with ⟨j, h1, h2, h3, h4⟩ | ⟨h1, h2, h3⟩
      · refine .inl ⟨j + 1, ?_, ?_, by simp; omega, by simpa using h4⟩
        · simp only [Instr.findNow, hk.1, Instr.sameNow, if_true, hne, h1, mget, if_neg hp]
          congr 3; omega
        · simp only [mset, if_neg hp, h2, List.set_cons_succ]
      · refine .inr ⟨?_, ?_, ?_⟩
        · simp only [Instr.findNow, hk.1, Instr.sameNow, if_true, hne, h1]
        · simp only [mget, if_neg hp, h2]
        · simp only [mset, if_neg hp, h3, List.cons_append]
theorem s_makeMap (hI : Inv E L a w G) (hd : o.dst = some d) (hlt : d < E.n) {T : TypeId} {r : Option Operand} (ho : o.op = .makeMap T r) (hop : oMakeMap d r = some (ups, obs)) : Does E L o a w ups := by
  unfold oMakeMap at hop
  split at hop
  · cases hop
    refine does_val hd (v := .map (some w.heap.size)) (w' := w.alloc (.map #[] 0)) (by simp [execOp, ho, Instr.makeMap]) ?_
    obtain ⟨h1, av1⟩ := hI.clearB d
    let bx' : Nat → Nat := fun k => if k = d then w.heap.size else G.bx k
    have hS : Stp (DR (.bp d)) w (w.alloc (.map #[] 0)) G (G.grow w.heap.size (some 0) (some (.box d)) id bx' G.pv) :=
      Stp.alloc hI _ _ _ (fun p _ => rfl) (fun k hk => by
        have : k ≠ d := fun e => hk (by rw [e]; exact rfl)
        simp [bx', this]) (fun p hp => rfl) (fun i j => rfl) (fun k hk => by
        have := hI.pin.2.1
        have : k ≠ d := by omega
        simp [bx', this])
    have h2 := h1.step' av1 hS
    have hbx : (G.grow w.heap.size (some 0) (some (.box d)) id bx' G.pv).bx d = w.heap.size := by simp [Gho.grow, bx']
    have hnew : (w.alloc (.map #[] 0)).heap[w.heap.size]? = some (.map #[] 0) := heap_alloc_new w _
    have h3 := h2.setB (d := d) (x := .map [] []) (by rw [hbx]; simp [Gho.grow]) (by rw [hbx]; simp [Gho.grow]) ⟨#[], 0, by rw [hbx]; exact hnew, rfl, rfl⟩
    have h4 := h3.setT hlt (sv := .mp d) (own := []) (u := .map (some w.heap.size)) (by rw [RelS, hbx]) (fun j oe hj => by cases hj)
    rw [noB_upd] at h4
    exact ⟨_, h4⟩
  · cases hop
theorem run_lookupI {T kt et : TypeId} {r clock : Nat} {es : Array MapEntry} {l : List (Int × Int)} {n : Int} (hm : isMapI P T = some (kt, et)) (hb : w.heap[r]? = some (.map es clock))
    (hk : es.toList.map MapEntry.key = l.map (fun p => Value.int .i64 p.1)) (hv : es.toList.map MapEntry.val = l.map (fun p => Value.int .i64 p.2)) :
    (Instr.lookup T (.map (some r)) (.int .i64 n) false).run P w = .ok (.int .i64 (mget l n)) w := by
  obtain ⟨h1, h2, i, hi, hz⟩ := isMapI_spec hm
  have hc : ∀ e, (Instr.checkKey e 10000 kt (.int .i64 n)).run P w = .ok () w := fun e => MapKept.run_checkKey (k := .int .i64 n) h2 (by simp [MapKept.IsKey]) e 9999
  rcases findNow_get (n := n) (y := 0) es.toList l 0 hk hv with ⟨j, g1, g2, g3, g4⟩ | ⟨g1, g2, g3⟩
  · simp [Instr.lookup, run_underlying h1, MapKept.run_getObj_map hb, hc, MapKept.run_findKey h2 g1, Result.andThen]
  · simp [Instr.lookup, run_underlying h1, MapKept.run_getObj_map hb, hc, MapKept.run_findKey h2 g1, Result.andThen, run_zeroValue hi hz, g2]
theorem map_modify_set {α β : Type} (g : α → β) (f : α → α) : ∀ (l : List α) (j : Nat) (b : β), (∀ x, l[j]? = some x → g (f x) = b) → (l.modify j f).map g = (l.map g).set j b
  | [], j, b, h => by simp
  | x :: l, 0, b, h => by simp [h x rfl]
  | x :: l, j + 1, b, h => by
    have := map_modify_set g f l j b (fun y hy => h y (by simpa using hy))
    simpa using this
theorem run_mapUpdateI {T kt et : TypeId} {r clock : Nat} {es : Array MapEntry} {l : List (Int × Int)} {n y : Int} (hm : isMapI P T = some (kt, et)) (hb : w.heap[r]? = some (.map es clock))
    (hk : es.toList.map MapEntry.key = l.map (fun p => Value.int .i64 p.1)) (hv : es.toList.map MapEntry.val = l.map (fun p => Value.int .i64 p.2)) :
    ∃ es' clock', (Instr.mapUpdate T (.map (some r)) (.int .i64 n) (.int .i64 y)).run P w = .ok () { w with heap := w.heap.setIfInBounds r (.map es' clock') } ∧
      es'.toList.map MapEntry.key = (mset l n y).map (fun p => Value.int .i64 p.1) ∧ es'.toList.map MapEntry.val = (mset l n y).map (fun p => Value.int .i64 p.2) := by
  obtain ⟨h1, h2, i, hi, hz⟩ := isMapI_spec hm
  have hc : (Instr.checkKey false 10000 kt (.int .i64 n)).run P w = .ok () w := MapKept.run_checkKey (k := .int .i64 n) h2 (by simp [MapKept.IsKey]) false 9999
  rcases findNow_get (n := n) (y := y) es.toList l 0 hk hv with ⟨j, g1, g2, g3, g4⟩ | ⟨g1, g2, g3⟩
  · have hlen : es.size = l.length := by have := congrArg List.length hk; simpa using this
    have hj : j < es.size := by omega
    have hkey : es[j].key = .int .i64 n := by
      have a := congrArg (fun q => q[j]?) hk
      simp only [List.getElem?_map] at a
      rw [List.getElem?_eq_getElem (by simpa using hj), List.getElem?_eq_getElem g3] at a
      rw [List.getElem?_eq_getElem g3] at g4
      simp at a g4
      rw [a, g4]
    refine ⟨es.modify j fun e => { e with key := .int .i64 n, val := .int .i64 y }, clock, ?_, ?_, ?_⟩
    · have hst : (Instr.keyThatStays (.int .i64 n) (.int .i64 n)).run P w = .ok (.int .i64 n) w := by
        unfold Instr.keyThatStays
        have : Instr.sameBits 10000 (.int .i64 n) (.int .i64 n) = true := by simp [Instr.sameBits]
        rw [if_pos this]; rfl
      simp only [Instr.mapUpdate, Sem.run_bind, run_underlying h1, Result.andThen_ok, MapKept.run_getObj_map hb, hc, MapKept.run_findKey h2 g1, Nat.zero_add]
      have he : ((es[j]?).map (fun e => e.key)).getD (.int .i64 n) = .int .i64 n := by rw [Array.getElem?_eq_getElem hj]; simp [hkey]
      simp only [he, Sem.run_bind, hst, Result.andThen_ok]
      rw [MapKept.run_setObj_map _ hb]
    · rw [Array.toList_modify, map_modify_set MapEntry.key _ _ _ (.int .i64 n) (fun x _ => rfl), hk, g2, List.map_set]
    · rw [Array.toList_modify, map_modify_set MapEntry.val _ _ _ (.int .i64 y) (fun x _ => rfl), hv, g2, List.map_set]
  · refine ⟨es.push { key := .int .i64 n, val := .int .i64 y, born := clock }, clock + 1, ?_, ?_, ?_⟩
    · simp only [Instr.mapUpdate, Sem.run_bind, run_underlying h1, Result.andThen_ok, MapKept.run_getObj_map hb, hc, MapKept.run_findKey h2 g1]
      rw [MapKept.run_setObj_map _ hb]
    · rw [g3]; simp [hk]
    · rw [g3]; simp [hv]
theorem s_lookup (hI : Inv E L a w G) (hd : o.dst = some d) (hlt : d < E.n) {T : TypeId} {x i : Operand} {ok : Bool} (ho : o.op = .lookup T x i ok) (hop : oLookup E.P L d T x i ok h = some (ups, obs)) (hob : ∀ p ∈ obs, p) : Does E L o a w ups := by
  unfold oLookup at hop
  split at hop
  · rename_i q k own n v hm hx hi hv
    split at hop
    · rename_i ks vs hb
      cases hop
      obtain ⟨l, rfl, rfl, rfl⟩ := hob _ (List.mem_singleton.2 rfl)
      obtain ⟨kt, et⟩ := q
      obtain ⟨_, _, es, ck, hheap, hk, hv2⟩ := hI.bo k _ hb
      have hu : a.eval x = .map (some (G.bx k)) := ev_rel hI hx
      have hn : a.eval i = .int .i64 n := evV_rel hI hi
      refine does_val hd (v := .int .i64 (mget l n)) (w' := w) ?_ ?_
      · simp only [execOp, ho, hu, hn, Sem.run_bind, run_lookupI hm hheap (relL_ints.1 hk) (relL_ints.1 hv2), Result.andThen_ok, Sem.run_pure]
      · obtain ⟨i1, a1⟩ := hI.fresh hlt
        have e : L.upds (fresh d ++ [.t d (.v (.int .i64 (mget l n)), [])]) = (L.upds (fresh d)).upd (.t d (.v (.int .i64 (mget l n)), [])) := by simp [Look.upds, List.foldl_append]
        rw [e]
        exact ⟨G, i1.setT hlt (sv := .v (.int .i64 (mget l n))) rfl (fun j oe hj => by cases hj)⟩
    · cases hop
  · rename_i q ks vs own n v hm hx hi hv
    cases hop
    obtain ⟨l, rfl, rfl, rfl⟩ := hob _ (List.mem_singleton.2 rfl)
    obtain ⟨kt, et⟩ := q
    obtain ⟨r, es, ck, hu, hheap, _, hk, hv2⟩ := ev_rel hI hx
    have hn : a.eval i = .int .i64 n := evV_rel hI hi
    refine does_val hd (v := .int .i64 (mget l n)) (w' := w) ?_ ?_
    · simp only [execOp, ho, hu, hn, Sem.run_bind, run_lookupI hm hheap (relL_ints.1 hk) (relL_ints.1 hv2), Result.andThen_ok, Sem.run_pure]
    · obtain ⟨i1, a1⟩ := hI.fresh hlt
      have e : L.upds (fresh d ++ [.t d (.v (.int .i64 (mget l n)), [])]) = (L.upds (fresh d)).upd (.t d (.v (.int .i64 (mget l n)), [])) := by simp [Look.upds, List.foldl_append]
      rw [e]
      exact ⟨G, i1.setT hlt (sv := .v (.int .i64 (mget l n))) rfl (fun j oe hj => by cases hj)⟩
  · cases hop
theorem Wrote.setObj (w : World) (r : Nat) (ob : Obj) : Wrote w { w with heap := w.heap.setIfInBounds r ob } r :=
  ⟨rfl, rfl, rfl, by simp, fun k hk => by simp [Array.getElem?_setIfInBounds, Ne.symm hk]⟩
theorem s_mapUpdate (hI : Inv E L a w G) (hd : o.dst = none) {T : TypeId} {x i y : Operand} (ho : o.op = .mapUpdate T x i y ∨ o.op = .insert T x i y) (hop : oMapUpdate E.P L T x i y h = some (ups, obs)) (hob : ∀ p ∈ obs, p) : Does E L o a w ups := by
  intro Q
  unfold oMapUpdate at hop
  split at hop
  · rename_i q k own n m ks' vs' hm hx hi hy hc
    split at hop
    · rename_i ks vs hb
      cases hop
      obtain ⟨l, rfl, rfl, rfl, rfl⟩ := hob _ (List.mem_singleton.2 rfl)
      obtain ⟨kt, et⟩ := q
      obtain ⟨hX, hlab, es, ck, hheap, hk, hv2⟩ := hI.bo k _ hb
      have hu : a.eval x = .map (some (G.bx k)) := ev_rel hI hx
      have hn : a.eval i = .int .i64 n := evV_rel hI hi
      have hyv : a.eval y = .int .i64 m := evV_rel hI hy
      obtain ⟨es', ck', hrun, h1, h2⟩ := run_mapUpdateI (n := n) (y := m) hm hheap (relL_ints.1 hk) (relL_ints.1 hv2)
      have i3 := hI.less (Sub.noB L k)
      have hS2 := (Wrote.setObj w (G.bx k) (.map es' ck')).stp (D := fun q => q = .box k) i3 (l := .box k) hlab rfl hX
      have i4 := i3.step' Av.box hS2
      have hlt : G.bx k < w.heap.size := (Array.getElem?_eq_some_iff.1 hheap).1
      have h5 := i4.setB (d := k) (x := .map (mgk (mset l n m)) (mgv (mset l n m))) hX hlab ⟨es', ck', by simp [hlt], relL_ints.2 h1, relL_ints.2 h2⟩
      rw [noB_upd] at h5
      unfold Oper.wp
      have : (execOp a.eval o).run E.P w = .ok .skip { w with heap := w.heap.setIfInBounds (G.bx k) (.map es' ck') } := by
        rcases ho with ho | ho <;> simp only [execOp, ho, hu, hn, hyv, Sem.run_bind, hrun, Result.andThen_ok, Sem.run_pure]
      rw [this, Oper.upon_skip, hd]
      exact ⟨G, h5⟩
    · cases hop
  · cases hop
def oLoadX (P : Program) (L : Look) (d : Nat) (T : TypeId) (x : Operand) (h : Hint) : Ans :=
  match ev L x with
  | some (.ptr k 0, _) => match L.b k with
    | some (.ref q) => match isAggP P T, sizeP P T with
      | some false, some 1 => some ([.t d (.mp q, [])], [])
      | _, _ => none
    | _ => oLoad P L d T x h
  | _ => oLoad P L d T x h
def oStoreX (P : Program) (L : Look) (T : TypeId) (x y : Operand) (h : Hint) : Ans :=
  match ev L y with
  | some (.mp q, _) => match sizeP P T, ev L x with
    | some 1, some (.ptr k 0, _) => match L.b k with
      | some (.cells [_] _) => some ([.b k (.ref q)], [])
      | _ => none
    | _, _ => none
  | _ => oStore P L T x y h
theorem s_loadX (hI : Inv E L a w G) (hd : o.dst = some d) (hlt : d < E.n) {T : TypeId} {x : Operand} (ho : o.op = .load T x) (hop : oLoadX E.P L d T x h = some (ups, obs)) (hob : ∀ p ∈ obs, p) : Does E L o a w ups := by
  unfold oLoadX at hop
  split at hop
  · rename_i k own hx
    split at hop
    · rename_i q hb
      split at hop
      · rename_i hag hs
        cases hop
        have hu : a.eval x = .pointer (some ⟨G.bx k, 0, none⟩) := ev_rel hI hx
        obtain ⟨_, _, e, hheap⟩ := hI.bo k _ hb
        have hc2 : CellsAt w (G.bx k) 0 [.map (some (G.bx q))] := by
          intro j u hj
          rw [cell_row hheap, Nat.zero_add]; simpa using hj
        obtain ⟨u, hrun, hu2⟩ := run_loadVar (P := E.P) hag hs rfl hc2 (.inr rfl)
        have hexec : (execOp a.eval o).run E.P w = .ok (.value u) w := by simp [execOp, ho, hu, Instr.loadAt, Instr.sureAddr, hrun]
        refine does_val hd hexec (hI.setSeen hlt (sv := .mp q) ?_ (fun j oe hj => by cases hj))
        simp at hu2
        exact hu2.symm
      · cases hop
    · exact s_load hI hd hlt ho hop hob
  · exact s_load hI hd hlt ho hop hob
theorem s_storeX (hI : Inv E L a w G) (hd : o.dst = none) {T : TypeId} {x y : Operand} (ho : o.op = .store T x y) (hop : oStoreX E.P L T x y h = some (ups, obs)) (hob : ∀ p ∈ obs, p) : Does E L o a w ups := by
  unfold oStoreX at hop
  split at hop
  · rename_i q own hy
    split at hop
    · rename_i k own' hs hx
      split at hop
      · rename_i c own0 hb
        cases hop
        intro Q
        have hu : a.eval x = .pointer (some ⟨G.bx k, 0, none⟩) := ev_rel hI hx
        have hv : a.eval y = .map (some (G.bx q)) := ev_rel hI hy
        obtain ⟨hX, hlab, us, e, hheap, hok⟩ := hI.bo k _ hb
        have hlen : us.size = 1 := by have := hok.rel.length; simpa using this
        have hst := run_storeCells_at E.P (G.bx k) 0 e [.map (some (G.bx q))] 0 us w hheap (by simp [hlen]) (by intro v hv; simp at hv; subst hv; rfl)
        have hset : (us.toList.take (0 + 0) ++ [Value.map (some (G.bx q))] ++ us.toList.drop (0 + 0 + [Value.map (some (G.bx q))].length)).toArray = #[.map (some (G.bx q))] := by
          have : us.toList.drop 1 = [] := List.drop_eq_nil_of_le (by simp [hlen])
          simp [this]
        rw [hset] at hst
        have i3 := hI.less (Sub.noB L k)
        have hS2 := (Wrote.setRow w (G.bx k) #[.map (some (G.bx q))]).stp (D := fun q => q = .box k) i3 (l := .box k) hlab rfl hX
        have i4 := i3.step' Av.box hS2
        have h5 := i4.setB (d := k) (x := .ref q) hX hlab ⟨e, setRow_heap w (G.bx k) us _ e (0, 0) hheap⟩
        rw [noB_upd] at h5
        unfold Oper.wp
        have : (execOp a.eval o).run E.P w = .ok .skip (w.setRow (G.bx k) #[.map (some (G.bx q))]) := by
          simp only [execOp, ho, hu, hv, Sem.run_bind, run_storeAt (v := .map (some (G.bx q))) hs rfl]
          rw [show (Value.map (some (G.bx q))).cells.toList = [.map (some (G.bx q))] from rfl, hst]
          simp only [Result.andThen_ok, Sem.run_pure]
        rw [this, Oper.upon_skip, hd]
        exact ⟨G, h5⟩
      · cases hop
    · cases hop
  · exact s_store hI hd ho hop hob
theorem mapget_obl (l : List (Int × Int)) (n : Int) : ∃ l', mgk l = mgk l' ∧ mgv l = mgv l' ∧ AV.int .i64 (mget l n) = .int .i64 (mget l' n) := ⟨l, rfl, rfl, rfl⟩
theorem mapnew_obl (n m : Int) : ∃ l', ([] : List AV) = mgk l' ∧ ([] : List AV) = mgv l' ∧ mgk (mset [] n m) = mgk (mset l' n m) ∧ mgv (mset [] n m) = mgv (mset l' n m) := ⟨[], rfl, rfl, rfl, rfl⟩
theorem mapset_obl (l : List (Int × Int)) (n m : Int) : ∃ l', mgk l = mgk l' ∧ mgv l = mgv l' ∧ mgk (mset l n m) = mgk (mset l' n m) ∧ mgv (mset l n m) = mgv (mset l' n m) := ⟨l, rfl, rfl, rfl, rfl⟩
def eqC (P : Program) (T : TypeId) (a b : AV) : Option Bool :=
  match isAggP P T, sizeP P T, P.underlying T with
  | some false, some 1, some (.int _) => match a, b with
    | .int k m, .int k' m' => match decide (k = k') with | true => some (m == m') | false => none
    | _, _ => none
  | some false, some 1, some .string => match a, b with
    | .str x, .str y => some (x.toList == y.toList)
    | _, _ => none
  | some false, some 1, some .bool => match a, b with
    | .bool x, .bool y => some (x == y)
    | _, _ => none
  | _, _, _ => none
def eqFs (P : Program) : List Field → Nat → List AV → List AV → Option Bool
  | [], _, [], [] => some true
  | f :: fs, i, a :: cs, b :: ds => match f.name == "_", Nat.beq f.offset i, eqC P f.type a b, eqFs P fs (i + 1) cs ds with
    | false, true, some q, some r => some (q && r)
    | _, _, _, _ => none
  | _, _, _, _ => none
def oBinS (P : Program) (L : Look) (d : Nat) (op : BinOp) (T : TypeId) (x y : Operand) (h : Hint) : Ans :=
  match evV L x, evV L y with
  | some (.agg cs), some (.agg ds) => match P.underlying T, P.stoodInHeld T, P.eqGuardType P.depth T with
    | some (.struct fs), false, false => match eqFs P fs.toList 0 cs ds with
      | some r => match op with
        | .eql => one d (.bool r) h []
        | .neq => one d (.bool (!r)) h []
        | _ => none
      | none => none
    | _, _, _ => none
  | _, _ => none
theorem run_eqC {T : TypeId} {x y : AV} {r : Bool} (h : eqC P T x y = some r) {X : Gh} {u v : Value} (hu : Rel X w x u) (hv : Rel X w y v) (e : Nat) :
    isAggP P T = some false ∧ sizeP P T = some 1 ∧ (Op.equalIn (e + 1) T u v).run P w = .ok r w := by
  unfold eqC at h
  split at h
  · rename_i ha hs hT
    split at h
    · split at h
      · rename_i hk
        have hk := of_decide_eq_true hk
        subst hk
        cases h; cases hu; cases hv
        exact ⟨ha, hs, run_equalIn_int w e T _ _ _ _ hT⟩
      · cases h
    · cases h
  · rename_i ha hs hT
    split at h
    · cases h; cases hu; cases hv
      exact ⟨ha, hs, run_equalIn_string w e T _ _ hT⟩
    · cases h
  · rename_i ha hs hT
    split at h
    · cases h; cases hu; cases hv
      exact ⟨ha, hs, run_equalIn_bool' w e T _ _ hT⟩
    · cases h
  · cases h
theorem run_eqFs {X : Gh} {us vs : List Value} (e : Nat) : ∀ (fs : List Field) (i : Nat) (cs ds : List AV) (r : Bool), eqFs P fs i cs ds = some r → RelL X w cs (us.drop i) → RelL X w ds (vs.drop i) →
    (Op.eqFields (e + 1) us.toArray vs.toArray fs).run P w = .ok r w
  | [], i, cs, ds, r, h, hu, hv => by
    cases cs <;> cases ds <;> cases h
    rfl
  | f :: fs, i, cs, ds, r, h, hu, hv => by
    cases cs with
    | nil => cases h
    | cons a cs =>
      cases ds with
      | nil => cases h
      | cons b ds =>
        unfold eqFs at h
        split at h
        · rename_i q s hn ho hq hs
          cases h
          obtain ⟨u, us', e1, hu1, hu2⟩ := hu
          obtain ⟨v, vs', e2, hv1, hv2⟩ := hv
          obtain ⟨ha, hsz, hrun⟩ := run_eqC hq hu1 hv1 e
          have ho := Nat.eq_of_beq_eq_true ho
          have l1 : i + 1 ≤ us.length := by have := congrArg List.length e1; simp at this; omega
          have l2 : i + 1 ≤ vs.length := by have := congrArg List.length e2; simp at this; omega
          obtain ⟨u', p1, p2⟩ := run_part (w := w) ha hsz l1 (.inr rfl)
          obtain ⟨v', p3, p4⟩ := run_part (w := w) ha hsz l2 (.inr rfl)
          rw [if_neg (by simp), e1] at p2
          rw [if_neg (by simp), e2] at p4
          have q1 : u = u' := by simpa using p2
          have q2 : v = v' := by simpa using p4
          subst q1; subst q2
          have n1 : us.drop (i + 1) = us' := by rw [← List.drop_drop, e1]; rfl
          have n2 : vs.drop (i + 1) = vs' := by rw [← List.drop_drop, e2]; rfl
          have ih := run_eqFs (X := X) (us := us) (vs := vs) e fs (i + 1) cs ds s hs (by rw [n1]; exact hu2) (by rw [n2]; exact hv2)
          have hne : f.name ≠ "_" := by intro he; rw [he] at hn; simp at hn
          unfold Op.eqFields
          rw [if_pos hne, ho]
          simp only [Sem.run_bind, p1, p3, hrun, Result.andThen_ok, Sem.run_ite]
          cases q with
          | false => rfl
          | true => simpa using ih
        · cases h
theorem s_binS (hI : Inv E L a w G) (hd : o.dst = some d) (hlt : d < E.n) {op : BinOp} {T T' : TypeId} {x y : Operand} (ho : o.op = .binOp op T x y T') (hop : oBinS E.P L d op T x y h = some (ups, obs)) (hob : ∀ p ∈ obs, p) : Does E L o a w ups := by
  unfold oBinS at hop
  split at hop
  · rename_i cs ds hx hy
    split at hop
    · rename_i fs hT h1 h2
      split at hop
      · rename_i r hr
        obtain ⟨us, hu, hrc⟩ := evV_rel hI hx
        obtain ⟨vs, hv, hrd⟩ := evV_rel hI hy
        have hfs : E.P.fieldsOf T = fs := by simp [Program.fieldsOf, hT]
        have hrun := run_eqFs (P := E.P) (w := w) (us := us) (vs := vs) 9998 fs.toList 0 cs ds r hr hrc hrd
        have he : (Op.equalIn 10000 T (.agg us.toArray) (.agg vs.toArray)).run E.P w = .ok r w := by
          rw [run_equalIn_struct w 9999 T _ _ (by rw [hfs, hT]) h1, hfs]
          exact hrun
        split at hop
        · refine does_val hd (v := .bool r) (w' := w) ?_ (sr_one hI hlt hop hob rfl)
          simp [execOp, ho, hu, hv, run_eqGuard_agg w _ T x y _ _ h2, run_eql_struct, he, Result.andThen]
        · refine does_val hd (v := .bool (!r)) (w' := w) ?_ (sr_one hI hlt hop hob rfl)
          simp [execOp, ho, hu, hv, run_eqGuard_agg w _ T x y _ _ h2, run_neq_struct, he, Result.andThen]
        · cases hop
      · cases hop
    · cases hop
  · cases hop
def band (k : IntKind) (a b : Int) : Int := k.wrap ((BitVec.ofInt k.bits a &&& BitVec.ofInt k.bits b).toNat)
def bor (k : IntKind) (a b : Int) : Int := k.wrap ((BitVec.ofInt k.bits a ||| BitVec.ofInt k.bits b).toNat)
def bxor (k : IntKind) (a b : Int) : Int := k.wrap ((BitVec.ofInt k.bits a ^^^ BitVec.ofInt k.bits b).toNat)
def bshr (k : IntKind) (a b : Int) : Int := a.fdiv (2 ^ min b.toNat k.bits)
def bshl (k : IntKind) (a b : Int) : Int := k.wrap (a * 2 ^ min b.toNat k.bits)
def oBinB (L : Look) (d : Nat) (op : BinOp) (x y : Operand) (h : Hint) : Ans :=
  match evV L x, evV L y with
  | some (.int k a), some (.int k' b) => match op with
    | .and => if k = k' then one d (.int k (band k a b)) h [] else none
    | .or => if k = k' then one d (.int k (bor k a b)) h [] else none
    | .xor => if k = k' then one d (.int k (bxor k a b)) h [] else none
    | .shr => one d (.int k (bshr k a b)) h [0 ≤ b]
    | .shl => one d (.int k (bshl k a b)) h [0 ≤ b]
    | _ => none
  | _, _ => none
theorem s_binB (hI : Inv E L a w G) (hd : o.dst = some d) (hlt : d < E.n) {op : BinOp} {T T' : TypeId} {x y : Operand} (ho : o.op = .binOp op T x y T') (hop : oBinB L d op x y h = some (ups, obs)) (hob : ∀ p ∈ obs, p) : Does E L o a w ups := by
  unfold oBinB at hop
  split at hop
  · rename_i k m k' m' hx hy
    have hu : a.eval x = .int k m := evV_rel hI hx
    have hv : a.eval y = .int k' m' := evV_rel hI hy
    split at hop
    · split at hop
      · rename_i hk
        subst hk
        refine does_val hd (v := .int k (band k m m')) (w' := w) ?_ (sr_one hI hlt hop hob rfl)
        simp [execOp, ho, hu, hv, run_guard_int, binOp, Op.intBits, band]
      · cases hop
    · split at hop
      · rename_i hk
        subst hk
        refine does_val hd (v := .int k (bor k m m')) (w' := w) ?_ (sr_one hI hlt hop hob rfl)
        simp [execOp, ho, hu, hv, run_guard_int, binOp, Op.intBits, bor]
      · cases hop
    · split at hop
      · rename_i hk
        subst hk
        refine does_val hd (v := .int k (bxor k m m')) (w' := w) ?_ (sr_one hI hlt hop hob rfl)
        simp [execOp, ho, hu, hv, run_guard_int, binOp, Op.intBits, bxor]
      · cases hop
    · have hb : 0 ≤ m' := one_obs hop hob _ (by simp)
      have hb' : ¬ m' < 0 := by omega
      refine does_val hd (v := .int k (bshr k m m')) (w' := w) ?_ (sr_one hI hlt hop hob rfl)
      simp [execOp, ho, hu, hv, run_guard_int, binOp, Op.shift, bshr, hb']
    · have hb : 0 ≤ m' := one_obs hop hob _ (by simp)
      have hb' : ¬ m' < 0 := by omega
      refine does_val hd (v := .int k (bshl k m m')) (w' := w) ?_ (sr_one hI hlt hop hob rfl)
      simp [execOp, ho, hu, hv, run_guard_int, binOp, Op.shift, bshl, hb']
    · cases hop
  · cases hop
end Go.Bv

namespace Go.Bv
open Go.RowKit
variable {E : Env} {P : Program} {n : Nat} {L L1 L2 : Look} {a : Act} {w w' : World} {G : Gho} {o : Oper} {d : Nat} {h : Hint} {ups : List Upd} {obs : List Prop} {Q : Exit → Act → World → Prop}
def contX (L : Look) (x : Operand) (h : Hint) : Option (List (List AV) × List Prop) :=
  match sliceOf L x with
  | some (.plain xs) => some (xs, [])
  | some (.held p π) => match contAt L p π h with | some (_, xs, ob) => some (xs, ob) | none => none
  | _ => none
theorem contX_spec (hI : Inv E L a w G) {x : Operand} {xs : List (List AV)} {ob : List Prop} (hc : contX L x h = some (xs, ob)) (hob : ∀ p ∈ ob, p) : ∃ X, Rel X w (.sl xs) (a.eval x) := by
  unfold contX at hc
  split at hc
  · rename_i ys hs
    cases hc
    cases sliceOf_spec hI hs with
    | plain hr => exact ⟨_, hr⟩
  · rename_i p π hs
    split at hc
    · rename_i dp ys ob' hc'
      cases hc
      cases sliceOf_spec hI hs with
      | held hat _ => exact ⟨_, (cont_held hI hc' hob hat).rel⟩
    · cases hc
  · cases hc
def oBytesStr (P : Program) (L : Look) (d : Nat) (src dst : TypeId) (x : Operand) (h : Hint) : Ans :=
  match isStrP P dst, (elemP P src).bind (fun e => intOfP P e), contX L x h, h.v with
  | true, some .u8, some (xs, ob), some (.str s) => some ([.t d (.v (.str s), [])], ob ++ [∃ ns : List Int, xs = ns.map (fun n => [.int .u8 n]) ∧ s = strOfNums ns])
  | _, _, _, _ => none
theorem s_bytesStr (hI : Inv E L a w G) (hd : o.dst = some d) (hlt : d < E.n) {S T : TypeId} {x : Operand} (ho : o.op = .convert S T x) (hop : oBytesStr E.P L d S T x h = some (ups, obs)) (hob : ∀ p ∈ obs, p) : Does E L o a w ups := by
  unfold oBytesStr at hop
  split at hop
  · rename_i xs ob s hT hS hc hv
    cases hop
    obtain ⟨X, hr⟩ := contX_spec hI hc (fun p hp => hob p (by simp [hp]))
    obtain ⟨ns, rfl, rfl⟩ : ∃ ns : List Int, xs = ns.map (fun n => [.int .u8 n]) ∧ s = strOfNums ns := hob _ (by simp)
    simp only [Option.bind_eq_some_iff] at hS
    obtain ⟨e, he, hk⟩ := hS
    have hTu : E.P.underlying T = some .string := by
      unfold isStrP at hT
      split at hT
      · assumption
      · cases hT
    have hSu : E.P.underlying S = some (.slice e) := by
      unfold elemP at he
      split at he
      · rename_i h1; cases he; exact h1
      · cases he
    have hEu : E.P.underlying e = some (.int .u8) := by
      unfold intOfP at hk
      split at hk
      · rename_i h1; cases hk; exact h1
      · cases hk
    obtain ⟨A, len, cap, hu, hl, hcap, hor⟩ := hr
    simp only [List.length_map] at hl
    refine does_val hd (v := .string (strOfNums ns)) (w' := w) ?_ (hI.set0 hlt (sv := .v (.str (strOfNums ns))) rfl)
    rcases hor with h0 | ⟨b, off, sz, rfl, hE⟩
    · have hn : ns = [] := by simpa using h0
      subst hn
      subst hl
      cases A with
      | none =>
        simp [execOp, ho, hu, run_convert_bytes_nil w S e hSu hEu _ _ T hTu, strOfNums]
        rfl
      | some A0 =>
        have hconv : (convert S T (.slice (some A0) 0 cap)).run E.P w = .ok (.string (strOfNums [])) w := by
          rw [run_convert_bytes_string w S T e _ _ _ hSu hEu hTu, run_bytesToString w A0 0 cap [] (by simp [loadCells, loadCellsFrom])]
          rfl
        have hz : ([] : List Int).length = 0 := rfl
        simp only [List.length_nil] at hu
        simp [execOp, ho, hu, hconv]
    · have hconv := run_convert_bytes_arg (P := E.P) w S e hSu hEu b off len cap ns hl.symm (fun i hi => by
        have hlt : i < ns.length := by omega
        have hg : (ns.map (fun n => [AV.int .u8 n]))[i]? = some [.int .u8 ns[i]] := by simp [hlt]
        obtain ⟨h1, ⟨u, hc1, _, hc2⟩, _⟩ := hE.get i hg
        have hsz : sz = 1 := by simpa using h1.symm
        subst hsz
        rw [Nat.mul_one] at hc1
        rw [hc1, show u = _ from hc2]
        simp [List.getD, hlt]) T hTu
      simp [execOp, ho, hu, hconv]
  · cases hop
def oConv (P : Program) (L : Look) (d : Nat) (src dst : TypeId) (x : Operand) (h : Hint) : Ans :=
  match oConvert P L d src dst x h with
  | some r => some r
  | none => oBytesStr P L d src dst x h
def oBinX (P : Program) (L : Look) (d : Nat) (op : BinOp) (T : TypeId) (x y : Operand) (h : Hint) : Ans :=
  match oBin P L d op T x y h with
  | some r => some r
  | none => match oBinS P L d op T x y h with
    | some r => some r
    | none => oBinB L d op x y h
def oPick (L : Look) (d : Nat) (c x y : Operand) : Ans :=
  match evV L c with | some (.bool true) => oSeen L d x | some (.bool false) => oSeen L d y | _ => none
def aOp (P : Program) (L : Look) (o : Oper) (d : Nat) (h : Hint) : Ans :=
  match o.op with
  | .move x => oMove P L d o.type x h
  | .assign x => oMove P L d o.type x h
  | .pick c x y => oPick L d c x y
  | .alloc T => oAlloc P d T
  | .box _ x => oBox L d x h
  | .build T ps => oBuild P L d T ps.toList h
  | .buildSlice T k ps => oBuildSlice P L d T k ps.toList h
  | .load T x => oLoadX P L d T x h
  | .fieldAddr S x f => oFieldAddr P L d S x f
  | .field S x f => oField P L d S x f
  | .indexAddr T x i => oIndexAddr P L d T x i h
  | .index T x i => oIndex P L d T x i h
  | .binOp op T x y _ => oBinX P L d op T x y h
  | .unOp op _ x => oUn L d op x h
  | .convert S T x => oConv P L d S T x h
  | .extract x i => oExtract L d x i h
  | .nilCheck x => oNil L d x
  | .makeSlice T x y => oMakeSlice P L d T x y h
  | .slice T x lo hi none => oSlice P L d T x lo hi h
  | .makeFunc fn f c => oMakeFunc L d fn f.toList c.toList
  | .makeMap _ r => oMakeMap d r
  | .lookup T x i ok => oLookup P L d T x i ok h
  | .call c => match c.callee with
    | .value g => oCall P L d g c.args.toList h
    | .builtin .append => oAppend P L d c.args.toList c.argTypes.toList h
    | .builtin b => oBuiltin P L d b c.args.toList c.argTypes.toList h
    | _ => none
  | _ => none
theorem aOp_sound (hI : Inv E L a w G) (hd : o.dst = some d) (hlt : d < E.n) (hop : aOp E.P L o d h = some (ups, obs)) (hob : ∀ p ∈ obs, p) : Does E L o a w ups := by
  unfold aOp at hop
  split at hop
  · rename_i x ho; exact s_move hI hd hlt (.inl ho) hop
  · rename_i x ho; exact s_move hI hd hlt (.inr ho) hop
  · rename_i c x y ho; exact s_pick hI hd hlt ho hop
  · rename_i T ho; exact s_alloc hI hd hlt ho hop
  · rename_i T x ho; exact s_box hI hd hlt ho hop
  · rename_i T ps ho; exact s_build hI hd hlt ho hop
  · rename_i T k ps ho; exact s_buildSlice hI hd hlt ho hop hob
  · rename_i T x ho; exact s_loadX hI hd hlt ho hop hob
  · rename_i S x f ho; exact s_fieldAddr hI hd hlt ho hop
  · rename_i S x f ho; exact s_field hI hd hlt ho hop
  · rename_i T x i ho; exact s_indexAddr hI hd hlt ho hop hob
  · rename_i T x i ho; exact s_index hI hd hlt ho hop hob
  · rename_i op T x y T' ho
    unfold oBinX at hop
    split at hop
    · rename_i r hr; cases hop; exact s_binOp hI hd hlt ho hr hob
    · split at hop
      · rename_i r hr; cases hop; exact s_binS hI hd hlt ho hr hob
      · exact s_binB hI hd hlt ho hop hob
  · rename_i op T x ho; exact s_unOp hI hd hlt ho hop hob
  · rename_i S T x ho
    unfold oConv at hop
    split at hop
    · rename_i r hr
      cases hop
      exact s_convert hI hd hlt ho hr hob
    · exact s_bytesStr hI hd hlt ho hop hob
  · rename_i x i ho; exact s_extract hI hd hlt ho hop
  · rename_i x ho; exact s_nilCheck hI hd hlt ho hop
  · rename_i T x y ho; exact s_makeSlice hI hd hlt ho hop hob
  · rename_i T x lo hi ho; exact s_slice hI hd hlt ho hop hob
  · rename_i fn f c ho; exact s_makeFunc hI hd hlt ho hop
  · rename_i T r ho; exact s_makeMap hI hd hlt ho hop
  · rename_i T x i ok ho; exact s_lookup hI hd hlt ho hop hob
  · rename_i c ho
    split at hop
    · rename_i g hg; exact s_call hI hd hlt ho hg hop hob
    · rename_i hg; exact s_append hI hd hlt ho hg hop hob
    · rename_i b _ hg; exact s_builtin hI hd hlt ho hg hop hob
    · cases hop
  · cases hop
structure St where
  t : List (Nat × (SV × OwnL))
  b : List (Nat × BX)
  g : List (Nat × OwnL)
def lk {α : Type} : List (Nat × α) → Nat → Option α
  | [], _ => none
  | (k, v) :: l, x => match Nat.beq k x with | true => some v | false => lk l x
def rmk {α : Type} (x : Nat) : List (Nat × α) → List (Nat × α)
  | [] => []
  | (k, v) :: l => match Nat.beq k x with | true => rmk x l | false => (k, v) :: rmk x l
theorem lk_rmk {α : Type} (x : Nat) : ∀ (l : List (Nat × α)) (k : Nat), lk (rmk x l) k = if k = x then none else lk l k
  | [], k => by simp [rmk, lk]
  | (j, v) :: l, k => by
    simp only [rmk]
    cases hj : Nat.beq j x with
    | true =>
      have := beq_true hj
      simp only []
      rw [lk_rmk x l k]
      by_cases e : k = x
      · simp [e]
      · simp only [e, if_false]
        simp only [lk]
        cases hk : Nat.beq j k with
        | true => have := beq_true hk; omega
        | false => rfl
    | false =>
      have hne := beq_false hj
      simp only [lk]
      cases hk : Nat.beq j k with
      | true => have := beq_true hk; subst this; simp [hne]
      | false => simp only []; exact lk_rmk x l k
def St.look (s : St) : Look := { t := lk s.t, b := lk s.b, g := lk s.g }
def forgetL {α : Type} (p : α → Bool) : List (Nat × α) → List (Nat × α)
  | [] => []
  | (k, e) :: l => match p e with | true => rmk k (forgetL p l) | false => (k, e) :: forgetL p l
theorem lk_forget {α : Type} (p : α → Bool) : ∀ (l : List (Nat × α)) (x : Nat), lk (forgetL p l) x = (lk l x).bind fun e => match p e with | true => none | false => some e
  | [], x => rfl
  | (k, e) :: l, x => by
    simp only [forgetL, lk]
    cases he : p e with
    | true =>
      simp only []
      rw [lk_rmk, lk_forget p l x]
      cases hk : Nat.beq k x with
      | true => have := beq_true hk; subst this; simp [he]
      | false => have := beq_false hk; rw [if_neg (fun e => this e.symm)]
    | false =>
      simp only [lk]
      cases hk : Nat.beq k x with
      | true => simp [he]
      | false => exact lk_forget p l x
def St.upd (s : St) : Upd → St
  | .f r => { t := forgetL (refsT r) s.t, b := forgetL (refsB r) s.b, g := forgetL (refsL r) s.g }
  | .t k e => { s with t := (k, e) :: rmk k s.t }
  | .b k e => { s with b := (k, e) :: rmk k s.b }
  | .g k e => { s with g := (k, e) :: rmk k s.g }
def St.upds (s : St) : List Upd → St
  | [] => s
  | u :: us => (s.upd u).upds us
theorem lk_cons {α : Type} (k : Nat) (v : α) (l : List (Nat × α)) : lk ((k, v) :: rmk k l) = fun x => if x = k then some v else lk l x := by
  funext x
  simp only [lk]
  cases hk : Nat.beq k x with
  | true => have := beq_true hk; simp [this]
  | false => have := beq_false hk; show lk (rmk k l) x = _; rw [lk_rmk, if_neg (fun e => this (Eq.symm e)), if_neg (fun e => this (Eq.symm e))]
theorem St.look_upd (s : St) (u : Upd) : (s.upd u).look = s.look.upd u := by
  cases u with
  | f r =>
    simp only [St.upd, St.look, Look.upd]
    congr 1 <;> (funext x; rw [lk_forget]; congr 1)
  | _ => simp [St.upd, St.look, Look.upd, lk_cons]
theorem St.look_upds : ∀ (us : List Upd) (s : St), (s.upds us).look = s.look.upds us
  | [], s => rfl
  | u :: us, s => by
    simp only [St.upds, Look.upds, List.foldl_cons]
    rw [St.look_upds us, St.look_upd]; rfl
end Go.Bv

namespace Go.Bv
open Go.RowKit
variable {E : Env} {P : Program} {n : Nat} {L L1 L2 : Look} {a : Act} {w w' : World} {G : Gho} {o : Oper} {d : Nat} {h : Hint} {ups : List Upd} {obs : List Prop} {Q : Exit → Act → World → Prop}
def AV.setc (v : AV) (j : Nat) (x : AV) : Option AV :=
  match v with
  | .agg cs => match cs[j]? with | some _ => some (.agg (cs.set j x)) | none => none
  | .slx => match j with | 0 => some x | _ => none
  | .sl _ => match j with | 0 => some x | _ => none
  | _ => none
def putV (L : Look) (p : OP) (x : AV) (own' : OwnL → OwnL) : Option (List Upd) :=
  match p with
  | .t s j => match L.t s with
    | some (.v v, own) => match v.setc j x with | some v' => some [.t s (.v v', own' own)] | none => none
    | _ => none
  | .b d j => match L.b d with
    | some (.cells cs own) => match cs[j]? with | some _ => some [.b d (.cells (cs.set j x) (own' own))] | none => none
    | _ => none
  | .a _ _ => none
def AV.getc (v : AV) (j : Nat) : Option AV :=
  match v with
  | .agg cs => cs[j]?
  | .sl xs => match j with | 0 => some (.sl xs) | _ => none
  | _ => none
def valAt (L : Look) : OP → Option AV
  | .t s j => match L.t s with
    | some (.v v, _) => v.getc j
    | _ => none
  | .b d j => match L.b d with | some (.cells cs _) => cs[j]? | _ => none
  | .a _ _ => none
theorem getc_rel {X : Gh} {v x : AV} {j : Nat} {u c : Value} (h : v.getc j = some x) (hr : Rel X w v u) (hc : (Value.flat u)[j]? = some c) : Rel X w x c := by
  unfold AV.getc at h
  split at h
  · rename_i cs
    obtain ⟨us, rfl, h4⟩ := hr
    obtain ⟨c', hc', hr'⟩ := h4.get j h
    have : us[j]? = some c := by simpa [Value.flat, Value.cells] using hc
    rw [hc'] at this; cases this; exact hr'
  · split at h
    · cases h
      obtain ⟨A, l, k, rfl, e2⟩ := hr
      have hc' : (#[Value.slice A l k].toList)[0]? = some c := hc
      simp at hc'
      subst hc'
      exact ⟨A, l, k, rfl, e2⟩
    · cases h
  · cases h
def insS (j : Nat) (x : OE) : OwnL → OwnL
  | [] => [(j, x)]
  | (k, y) :: l => match Nat.ble j k with | true => (j, x) :: (k, y) :: l | false => (k, y) :: insS j x l
def sortO : OwnL → OwnL
  | [] => []
  | (j, x) :: l => insS j x (sortO l)
theorem mem_insS {j k : Nat} {x y : OE} : ∀ {l : OwnL}, (k, y) ∈ insS j x l → (k, y) = (j, x) ∨ (k, y) ∈ l
  | [], h => by simpa [insS] using h
  | (i, z) :: l, h => by
    simp only [insS] at h
    split at h
    · rcases List.mem_cons.1 h with h | h
      · exact .inl h
      · exact .inr h
    · rcases List.mem_cons.1 h with h | h
      · exact .inr (by rw [h]; exact List.mem_cons_self)
      · rcases mem_insS h with h | h
        · exact .inl h
        · exact .inr (List.mem_cons_of_mem _ h)
theorem mem_sortO {k : Nat} {y : OE} : ∀ {l : OwnL}, (k, y) ∈ sortO l → (k, y) ∈ l
  | [], h => h
  | (j, x) :: l, h => by
    simp only [sortO] at h
    rcases mem_insS h with h | h
    · rw [h]; exact List.mem_cons_self
    · exact List.mem_cons_of_mem _ (mem_sortO h)
def unL (L : Look) (p : OP) : Option (List Upd) :=
  match p with
  | .t s j => match L.t s with | some (sv, own) => some [.t s (sv, rmO own j)] | none => none
  | .b d j => match L.b d with | some (.cells cs own) => some [.b d (.cells cs (rmO own j))] | _ => none
  | .a i j => match L.g i with | some own => some [.g i (rmO own j)] | none => none
def fixL (L : Look) : Fix → Option (List Upd)
  | .un p => match p with
    | .t s j => match L.t s with | some (sv, own) => some [.t s (sv, rmO own j)] | none => none
    | .b d j => match L.b d with | some (.cells cs own) => some [.b d (.cells cs (rmO own j))] | _ => none
    | .a i j => match L.g i with | some own => some [.g i (rmO own j)] | none => none
  | .sh p => match rootO L p with
    | some (.ex _ _ xs) => match putV (L.upd (.f (refOf p))) p (.sl xs) (fun own => rmO own (match p with | .t _ j => j | .b _ j => j | .a _ j => j)) with
      | some us => some (.f (refOf p) :: us)
      | none => none
    | _ => none
  | .ow p dp => match rootO L p, valAt L p with
    | some (.app e), some (.sl []) => match putV L p .slx (fun own => setO own (match p with | .t _ j => j | .b _ j => j | .a _ j => j) (.ex e dp [])) with
      | some us => some us
      | none => none
    | _, _ => none
  | .ag p => match rootO L p with
    | some (.ex e true xs) => match putO (L.upd (.f (refOf p))) p (.ex e false xs) with
      | some us => some (.f (refOf p) :: us)
      | none => none
    | _ => none
  | .so k => match L.b k with
    | some (.cells cs own) => some [.b k (.cells cs (sortO own))]
    | _ => none
  | .pl t => match L.t t with
    | some (.v .slx, [(0, .al p [])]) => match rootO L p with
      | some (.ex e dp xs) => match unL (L.upd (.f (refOf p))) p with
        | some us => some (.f (refOf p) :: us ++ fresh t ++ [.t t (.v .slx, [(0, .ex e dp xs)])])
        | none => none
      | _ => none
    | _ => none
theorem putV_t {s j : Nat} {x : AV} {f : OwnL → OwnL} {us : List Upd} (h : putV L (.t s j) x f = some us) : ∃ v own v', L.t s = some (.v v, own) ∧ v.setc j x = some v' ∧ us = [.t s (.v v', f own)] := by
  simp only [putV] at h
  split at h
  · rename_i v own hs
    split at h
    · rename_i v' hv; cases h; exact ⟨v, own, v', hs, hv, rfl⟩
    · cases h
  · cases h
theorem putV_b {s j : Nat} {x : AV} {f : OwnL → OwnL} {us : List Upd} (h : putV L (.b s j) x f = some us) : ∃ cs own, L.b s = some (.cells cs own) ∧ j < cs.length ∧ us = [.b s (.cells (cs.set j x) (f own))] := by
  simp only [putV] at h
  split at h
  · rename_i cs own hs
    split at h
    · rename_i v' hv; cases h; exact ⟨cs, own, hs, (List.getElem?_eq_some_iff.1 hv).1, rfl⟩
    · cases h
  · cases h
theorem setc_rel {X : Gh} {v v' x : AV} {j : Nat} {u c : Value} (h : v.setc j x = some v') (hr : Rel X w v u) (hc : (Value.flat u)[j]? = some c) (hx : Rel X w x c) (hsl : ∃ A l k, c = .slice A l k) : Rel X w v' u := by
  unfold AV.setc at h
  split at h
  · rename_i cs
    split at h
    · cases h
      obtain ⟨us, rfl, hl⟩ := hr
      refine ⟨us, rfl, ?_⟩
      have hc' : us[j]? = some c := by simpa [Value.flat, Value.cells] using hc
      have := RelL.set (cs := cs) (us := us) j hl hx
      have e : us.set j c = us := by
        apply List.ext_getElem?
        intro i
        rw [List.getElem?_set]
        split
        · rename_i hij; subst hij; rw [if_pos (List.getElem?_eq_some_iff.1 hc').1, hc']
        · rfl
      rwa [e] at this
    · cases h
  · split at h
    · cases h
      obtain ⟨A, l, k, rfl⟩ := hr
      have hc' : (#[Value.slice A l k].toList)[0]? = some c := hc
      simp at hc'
      subst hc'; exact hx
    · cases h
  · split at h
    · cases h
      obtain ⟨A, l, k, rfl, _⟩ := hr
      have hc' : (#[Value.slice A l k].toList)[0]? = some c := hc
      simp at hc'
      subst hc'; exact hx
    · cases h
  · cases h
theorem refsT_f {r : Ref} {s : Nat} {e : SV × OwnL} (h : (L.upd (.f r)).t s = some e) : L.t s = some e := (f_t.1 h).1
theorem Inv.share (hI : Inv E L a w G) {p : OP} {e : TypeId} {dp : Bool} {xs : List (List AV)} (hr : rootO L p = some (.ex e dp xs)) (hn : NoRef (refOf p) L) :
    ∃ G', Inv E (L.rmP p) a w G' ∧ Rel G'.X w (.sl xs) (G.pv p) ∧ G'.bx = G.bx ∧ G'.lab = G.lab ∧ (∀ b, G.lab b ≠ some (.own p) → G'.X b = G.X b) := by
  obtain ⟨i1, a1⟩ := hI.rmP hn
  obtain ⟨u, hown⟩ := rootO_own hI hr rfl
  have hu := hown.pv rfl
  have hh := own_held hown
  let X' : Gh := fun b => match decide (G.lab b = some (.own p)) with | true => none | false => G.X b
  let G' : Gho := { G with X := X' }
  have hX1 : ∀ b, G.lab b = some (.own p) → X' b = none := fun b hb => by simp [X', hb]
  have hX2 : ∀ b, G.lab b ≠ some (.own p) → X' b = G.X b := fun b hb => by simp [X', hb]
  have hE : Ext G.X w X' w := by
    refine ⟨fun b o u hc hk => ⟨hc, ?_⟩, fun r es k hc hk => ⟨hc, ?_⟩⟩
    · by_cases hb : G.lab b = some (.own p)
      · simp [okc, hX1 b hb]
      · simp only [okc, hX2 b hb]; exact hk
    · by_cases hb : G.lab r = some (.own p)
      · exact hX1 r hb
      · rw [hX2 r hb]; exact hk
  have hS : Stp (fun q => q = .own p) w w G G' := by
    refine ⟨rfl, rfl, rfl, Nat.le_refl _, fun b hb hp => ⟨rfl, hX2 b (fun h => hp _ h rfl), rfl⟩, hE, fun b hb => (hI.new b hb).2, fun b hb => ?_, fun b q hq => .inl ⟨q, hq⟩, fun _ _ => rfl, fun _ _ => rfl, ⟨fun _ _ => rfl, fun _ _ => rfl⟩⟩
    have := hI.new b hb
    exact ⟨by show X' b = none; rw [hX2 b (by rw [this.2]; simp)]; exact this.1, this.2⟩
  refine ⟨G', i1.step' a1 hS, ?_, rfl, rfl, hX2⟩
  rw [hu]
  obtain ⟨e', sz, us, F, r1, r2, r3, r4, r5⟩ := hh.row
  have hop : ∀ b ∈ blks u ++ F, X' b = none := fun b hb => hX1 b (r5 b hb)
  refine rel_ownsRow r2 r3 ?_ (fun b hb j hj => by simp [okc, G', hop b (by simp [mem_blks, hb])])
  cases dp with
  | true => exact DVL.rel _ _ _ r4 (fun b hb => hop b (by simp [hb]))
  | false => exact RelL.mono hE _ _ r4
end Go.Bv

namespace Go.Bv
open Go.RowKit
variable {E : Env} {P : Program} {n : Nat} {L L1 L2 : Look} {a : Act} {w w' : World} {G : Gho} {o : Oper} {d : Nat} {h : Hint} {ups : List Upd} {obs : List Prop} {Q : Exit → Act → World → Prop}
theorem upd_rmP_t {s j : Nat} {e : SV × OwnL} : (L.rmP (.t s j)).upd (.t s e) = L.upd (.t s e) := by
  simp only [Look.rmP, Look.upd]
  congr 1
  funext k
  by_cases h : k = s <;> simp [h]
theorem upd_rmP_b {s j : Nat} {e : BX} : (L.rmP (.b s j)).upd (.b s e) = L.upd (.b s e) := by
  simp only [Look.rmP, Look.upd]
  congr 1
  funext k
  by_cases h : k = s <;> simp [h]
theorem un_eq {p : OP} (h : unL L p = some ups) : L.upds ups = L.rmP p := by
  cases p with
  | t s j =>
    simp only [unL] at h
    split at h
    · rename_i sv own hs
      cases h
      simp only [Look.upds, List.foldl_cons, List.foldl_nil, Look.upd, Look.rmP]
      congr 1
      funext k
      by_cases e : k = s
      · subst e; simp [hs]
      · simp [e]
    · cases h
  | b s j =>
    simp only [unL] at h
    split at h
    · rename_i cs own hs
      cases h
      simp only [Look.upds, List.foldl_cons, List.foldl_nil, Look.upd, Look.rmP]
      congr 1
      funext k
      by_cases e : k = s
      · subst e; simp [hs]
      · simp [e]
    · cases h
  | a s j =>
    simp only [unL] at h
    split at h
    · rename_i own hs
      cases h
      simp only [Look.upds, List.foldl_cons, List.foldl_nil, Look.upd, Look.rmP]
      congr 1
      funext k
      by_cases e : k = s
      · subst e; simp [hs]
      · simp [e]
    · cases h
theorem fix_un (hI : Inv E L a w G) {p : OP} (h : fixL L (.un p) = some ups) : Inv E (L.upds ups) a w G := by
  have e : L.upds ups = L.rmP p := by
    cases p with
    | t s j =>
      simp only [fixL] at h
      split at h
      · rename_i sv own hs
        cases h
        simp only [Look.upds, List.foldl_cons, List.foldl_nil, Look.upd, Look.rmP]
        congr 1
        funext k
        by_cases e : k = s
        · subst e; simp [hs]
        · simp [e]
      · cases h
    | b s j =>
      simp only [fixL] at h
      split at h
      · rename_i cs own hs
        cases h
        simp only [Look.upds, List.foldl_cons, List.foldl_nil, Look.upd, Look.rmP]
        congr 1
        funext k
        by_cases e : k = s
        · subst e; simp [hs]
        · simp [e]
      · cases h
    | a s j =>
      simp only [fixL] at h
      split at h
      · rename_i own hs
        cases h
        simp only [Look.upds, List.foldl_cons, List.foldl_nil, Look.upd, Look.rmP]
        congr 1
        funext k
        by_cases e : k = s
        · subst e; simp [hs]
        · simp [e]
      · cases h
  rw [e]
  exact hI.less (Sub.rmP p L)
theorem fix_sh (hI : Inv E L a w G) {p : OP} (h : fixL L (.sh p) = some ups) : SR E (L.upds ups) a w := by
  simp only [fixL] at h
  split at h
  · rename_i e dp xs hr
    split at h
    · rename_i us hp
      cases h
      have hn := NoRef.of (refOf p) L
      have i1 := hI.forget (refOf p)
      obtain ⟨u, hown⟩ := rootO_own hI hr rfl
      have hsl := own_slice hown rfl
      rw [← hown.pv rfl] at hsl
      cases p with
      | a s j => cases hp
      | t s j =>
        obtain ⟨v, own, v', h1, h2, rfl⟩ := putV_t hp
        have h3 := (f_t.1 h1).1
        have hr1 : rootO (L.upd (.f (refOf (.t s j)))) (.t s j) = some (.ex e dp xs) := by
          simp only [rootO, h3] at hr
          simp only [rootO, h1, hr]
        obtain ⟨G', i2, k1, k2, k3, k4⟩ := i1.share hr1 hn
        have hat : (Value.flat (a.tmps.getD s undef))[j]? = some (G.pv (.t s j)) := hI.rootAt hr rfl
        obtain ⟨q1, q2, q3⟩ := i2.tm s (.v v) (rmO own j) (by simp [Look.rmP, h1])
        have := i2.setT' (sv := .v v') (own := rmO own j) q1 (setc_rel h2 q2 hat k1 hsl) q3
        rw [upd_rmP_t] at this
        exact ⟨G', this⟩
      | b s j =>
        obtain ⟨cs, own, h1, h2, rfl⟩ := putV_b hp
        have h3 := (f_b.1 h1).1
        have hr1 : rootO (L.upd (.f (refOf (.b s j)))) (.b s j) = some (.ex e dp xs) := by
          simp only [rootO, h3] at hr
          simp only [rootO, h1, hr]
        obtain ⟨G', i2, k1, k2, k3, k4⟩ := i1.share hr1 hn
        have hat : w.cell? ⟨G.bx s, j, none⟩ = some (G.pv (.b s j)) := hI.rootAt hr rfl
        obtain ⟨q1, q2, us, te, q3, q4⟩ := i2.bo s (.cells cs (rmO own j)) (by simp [Look.rmP, h1])
        have hc : us[j]? = some (G.pv (.b s j)) := by rw [← k2, cell_row q3] at hat; exact hat
        have := i2.setB (d := s) (x := .cells (cs.set j (.sl xs)) (rmO own j)) q1 q2 ⟨us, te, q3, by
          have := RelL.set j q4.rel k1
          have e : us.toList.set j (G.pv (.b s j)) = us.toList := by
            apply List.ext_getElem?
            intro i
            rw [List.getElem?_set]
            split
            · rename_i hij; subst hij
              have hc' : us.toList[j]? = some (G.pv (.b s j)) := by simpa using hc
              rw [if_pos (List.getElem?_eq_some_iff.1 hc').1, hc']
            · rfl
          rwa [e] at this, q4.own⟩
        rw [upd_rmP_b] at this
        exact ⟨G', this⟩
    · cases h
  · cases h
theorem own_empty {p : OP} {e : TypeId} {dp : Bool} {c : Value} (ho : Own P G w p (.app e) c) (hc : Rel G.X w (.sl []) c) : Own P G w p (.ex e dp []) c := by
  obtain ⟨h1, F, ⟨sz, m, us, h2, h3, rfl, h4⟩, h5⟩ := ho
  obtain ⟨A, len, cap, rfl, hl, _⟩ := hc
  have hm : m = 0 := by
    rcases h3.2 with ⟨_, e2⟩ | ⟨g, cp, cur, e1, _⟩
    · exact e2
    · cases e1; simpa using hl
  subst hm
  have hus : us = [] := List.eq_nil_of_length_eq_zero (by rw [h3.1]; simp)
  subst hus
  refine ⟨h1, _, ⟨e, sz, [], [], .inl rfl, h2, h3, by simp, ?_, by simp, ?_, fun b hb => by rw [h4 b hb]; simp⟩, h5⟩
  · cases dp with
    | true => exact ⟨rfl, rfl⟩
    | false => exact ⟨rfl, rfl⟩
  · unfold blks; split <;> simp
theorem fix_ow (hI : Inv E L a w G) {p : OP} {dp : Bool} (h : fixL L (.ow p dp) = some ups) : Inv E (L.upds ups) a w G := by
  simp only [fixL] at h
  split at h
  · rename_i e hr hv
    split at h
    · rename_i us hp
      cases h
      cases p with
      | a s j => cases hp
      | t s j =>
        obtain ⟨v, own, v', h1, h2, rfl⟩ := putV_t hp
        obtain ⟨q1, q2, q3⟩ := hI.tm s _ _ h1
        have hlk : (j, OE.app e) ∈ own := by simp only [rootO, h1] at hr; exact lkO_mem hr
        obtain ⟨c, hc, hoc⟩ := q3 j _ hlk
        have hrc : Rel G.X w (.sl []) c := getc_rel (by simpa [valAt, h1] using hv) q2 hc
        refine hI.setT' (sv := .v v') q1 (setc_rel h2 q2 hc (own_slice hoc rfl) (own_slice hoc rfl)) (fun i oe hi => ?_)
        rcases mem_setO hi with ⟨rfl, rfl⟩ | ⟨_, hi⟩
        · exact ⟨c, hc, own_empty hoc hrc⟩
        · exact q3 i oe hi
      | b s j =>
        obtain ⟨cs, own, h1, h2, rfl⟩ := putV_b hp
        obtain ⟨q1, q2, us0, te, q3, q4⟩ := hI.bo s _ h1
        have hlk : (j, OE.app e) ∈ own := by simp only [rootO, h1] at hr; exact lkO_mem hr
        obtain ⟨c, hc, hoc⟩ := q4.own j _ hlk
        have hv' : cs[j]? = some (.sl []) := by simpa [valAt, h1] using hv
        obtain ⟨c', hc', hrc⟩ := q4.rel.get j hv'
        have hcc : c' = c := by
          have : us0.toList[j]? = some c := by simpa using hc
          rw [hc'] at this; cases this; rfl
        subst hcc
        refine hI.setB (d := s) (x := .cells (cs.set j .slx) (setO own j (.ex e dp []))) q1 q2 ⟨us0, te, q3, ?_, fun i oe hi => ?_⟩
        · have := RelL.set (c := .slx) (u := c') j q4.rel (own_slice hoc rfl)
          have e : us0.toList.set j c' = us0.toList := by
            apply List.ext_getElem?
            intro i
            rw [List.getElem?_set]
            split
            · rename_i hij; subst hij; rw [if_pos (List.getElem?_eq_some_iff.1 hc').1, hc']
            · rfl
          rwa [e] at this
        · rcases mem_setO hi with ⟨rfl, rfl⟩ | ⟨_, hi⟩
          · exact ⟨c', hc, own_empty hoc hrc⟩
          · exact q4.own i oe hi
    · cases h
  · cases h
theorem fix_ag (hI : Inv E L a w G) {p : OP} (h : fixL L (.ag p) = some ups) : SR E (L.upds ups) a w := by
  classical
  simp only [fixL] at h
  split at h
  · rename_i e xs hr
    split at h
    · rename_i us hp
      cases h
      have hn := NoRef.of (refOf p) L
      have i1 := hI.forget (refOf p)
      obtain ⟨i2, a2⟩ := i1.rmP hn
      have hat := hI.rootAt hr rfl
      obtain ⟨u, hown⟩ := rootO_own hI hr rfl
      have hu := hown.pv rfl
      obtain ⟨_, F, ⟨e', sz, vs, F', g0, g1, g2, g3, g4, rfl, g6, g7⟩, hF⟩ := hown
      let X' : Gh := fun b => if b ∈ F' then none else G.X b
      let G' : Gho := { G with X := X' }
      have hX1 : ∀ b, b ∈ F' → X' b = none := fun b hb => if_pos hb
      have hX2 : ∀ b, b ∉ F' → X' b = G.X b := fun b hb => if_neg hb
      have hlab : ∀ b, b ∈ F' → G.lab b = some (.own p) := fun b hb => hF b (by simp [hb])
      have hE : Ext G.X w X' w := by
        refine ⟨fun b o u hc hk => ⟨hc, ?_⟩, fun r es k hc hk => ⟨hc, ?_⟩⟩
        · by_cases hb : b ∈ F'
          · simp [okc, hX1 b hb]
          · simp only [okc, hX2 b hb]; exact hk
        · by_cases hb : r ∈ F'
          · exact hX1 r hb
          · rw [hX2 r hb]; exact hk
      have hS : Stp (fun q => q = .own p) w w G G' := by
        refine ⟨rfl, rfl, rfl, Nat.le_refl _, fun b hb hp => ⟨rfl, hX2 b (fun h => hp _ (hlab b h) rfl), rfl⟩, hE, fun b hb => (hI.new b hb).2, fun b hb => ?_, fun b q hq => .inl ⟨q, hq⟩, fun _ _ => rfl, fun _ _ => rfl, ⟨fun _ _ => rfl, fun _ _ => rfl⟩⟩
        have := hI.new b hb
        exact ⟨by show X' b = none; rw [hX2 b (fun h => by have := hlab b h; rw [(hI.new b hb).2] at this; cases this)]; exact this.1, this.2⟩
      have i3 := i2.step' a2 hS
      refine ⟨G', ?_⟩
      show Inv E ((L.upd (.f (refOf p))).upds us) a w G'
      rw [putO_setP hp]
      refine i3.back ?_ ?_
      · cases p <;> exact hat
      · show Own E.P G' w p (.ex e false xs) (G.pv p)
        rw [hu]
        refine ⟨hu, blks u, ⟨e', sz, vs, [], g0, g1, g2, g3, ⟨rfl, DVL.rel _ _ _ g4 (fun b hb => hX1 b hb)⟩, by simp, ?_, fun b hb => ?_⟩, fun b hb => hF b (by simp [hb])⟩
        · exact (List.nodup_append.1 g6).1
        · show X' b = some 0
          rw [hX2 b (fun h => (List.nodup_append.1 g6).2.2 b hb b h rfl)]
          exact g7 b (by simp [hb])
    · cases h
  · cases h
theorem fix_so (hI : Inv E L a w G) {k : Nat} (h : fixL L (.so k) = some ups) : Inv E (L.upds ups) a w G := by
  simp only [fixL] at h
  split at h
  · rename_i cs own hb
    cases h
    refine hI.less ⟨fun s sv own0 hs => ⟨own0, hs, okS_false, fun j oe hj => ⟨hj, okE_false⟩⟩, fun d x hd => ⟨fun h => h.elim id id, ?_⟩, fun i own0 hg => ⟨own0, hg, fun j oe hj => ⟨hj, okE_false⟩⟩⟩
    by_cases e : d = k
    · subst e
      have hx : x = .cells cs (sortO own) := by simpa [Look.upds, Look.upd] using hd.symm
      subst hx
      exact ⟨_, hb, rfl, fun j oe hj => ⟨mem_sortO hj, okE_false⟩⟩
    · have hd' : L.b d = some x := by simpa [Look.upds, Look.upd, e] using hd
      refine ⟨x, hd', ?_⟩
      cases x with
      | cells cs' own' => exact ⟨rfl, fun j oe hj => ⟨hj, okE_false⟩⟩
      | map ks vs => exact ⟨rfl, rfl⟩
      | ref q => exact ⟨rfl, fun h => h⟩
  · cases h
theorem fix_pl (hI : Inv E L a w G) {t : Nat} (h : fixL L (.pl t) = some ups) : SR E (L.upds ups) a w := by
  simp only [fixL] at h
  split at h
  · rename_i p ht
    split at h
    · rename_i e dp xs hr
      split at h
      · rename_i us hus
        cases h
        obtain ⟨htn, hrel, hoo⟩ := hI.tm t _ _ ht
        obtain ⟨c, hc, hoc⟩ := hoo 0 (.al p []) (by simp)
        have hcp : c = G.pv p := hoc.1
        obtain ⟨u, hown⟩ := rootO_own hI hr rfl
        have hu := hown.pv rfl
        obtain ⟨_, F, hRs, hF⟩ := hown
        have hn := NoRef.of (refOf p) L
        have i1 := hI.forget (refOf p)
        obtain ⟨i2, a2⟩ := i1.rmP hn
        obtain ⟨i3, a3⟩ := i2.fresh htn
        have a2' : Av (fun q => q = .own p) (((L.upd (.f (refOf p))).rmP p).upds (fresh t)) := (a2.f _).setT trivial (fun j oe hj => by cases hj)
        let f : LP → LP := fun l => if l = .own p then .own (.t t 0) else l
        let pv' : OP → Value := fun q => if q = .t t 0 then u else G.pv q
        have hS : Stp (fun q => q = .own p ∨ DR (.t t) q) w w G (G.relab f pv') := Stp.relab hI (fun l hl => by
            have : l ≠ .own p := fun e => hl (.inl e)
            simp [f, this]) (fun q hq => by
            have : q ≠ .t t 0 := fun e => hq (.inr (by rw [e]; exact rfl))
            simp [pv', this]) (fun i j => rfl)
        have i4 := i3.step' (a2'.or a3) hS
        have hrel' : RelS (G.relab f pv') w (.v .slx) (a.tmps.getD t undef) := hrel
        have hRs' : Rs E.P (G.relab f pv').X w (.ex e dp xs) u F := hRs
        have i5 := i4.setT' htn (sv := .v .slx) (own := [(0, .ex e dp xs)]) hrel' (fun j oe hj => by
          have hj' := List.mem_singleton.1 hj
          cases hj'
          refine ⟨c, hc, ?_⟩
          rw [hcp, hu]
          exact ⟨by simp [Gho.relab, pv'], F, hRs', fun b hb => by simp [Gho.relab, hF b hb, f]⟩)
        have eq : L.upds (.f (refOf p) :: us ++ fresh t ++ [.t t (.v .slx, [(0, .ex e dp xs)])]) = (((L.upd (.f (refOf p))).rmP p).upds (fresh t)).upd (.t t (.v .slx, [(0, .ex e dp xs)])) := by
          rw [← un_eq hus]
          simp [Look.upds, List.foldl_append]
        rw [eq]
        exact ⟨_, i5⟩
      · cases h
    · cases h
  · cases h
theorem fixL_sound (hI : SR E L a w) {f : Fix} (h : fixL L f = some ups) : SR E (L.upds ups) a w := by
  obtain ⟨G, hI⟩ := hI
  cases f with
  | un p => exact ⟨G, fix_un hI h⟩
  | sh p => exact fix_sh hI h
  | ow p dp => exact ⟨G, fix_ow hI h⟩
  | ag p => exact fix_ag hI h
  | so k => exact ⟨G, fix_so hI h⟩
  | pl t => exact fix_pl hI h
def fixes (st : St) : List Fix → Option St
  | [] => some st
  | f :: fs => match fixL st.look f with | some us => fixes (st.upds us) fs | none => none
theorem fixes_sound : ∀ {fs : List Fix} {st st' : St}, SR E st.look a w → fixes st fs = some st' → SR E st'.look a w
  | [], st, st', hI, h => by cases h; exact hI
  | f :: fs, st, st', hI, h => by
    simp only [fixes] at h
    split at h
    · rename_i us hu
      exact fixes_sound (by rw [St.look_upds]; exact fixL_sound hI hu) h
    · cases h
def fixLs (L : Look) : List Fix → Option (List Upd)
  | [] => some []
  | f :: fs => match fixL L f with
    | some us => match fixLs (L.upds us) fs with
      | some vs => some (us ++ vs)
      | none => none
    | none => none
theorem fixLs_sound : ∀ {fs : List Fix} {L : Look} {us : List Upd}, SR E L a w → fixLs L fs = some us → SR E (L.upds us) a w
  | [], L, us, hI, h => by cases h; exact hI
  | f :: fs, L, us, hI, h => by
    simp only [fixLs] at h
    split at h
    · rename_i us1 h1
      split at h
      · rename_i us2 h2
        cases h
        have := fixLs_sound (fixL_sound hI h1) h2
        simpa [Look.upds, List.foldl_append] using this
      · cases h
    · cases h
end Go.Bv

namespace Go.Bv
open Go.RowKit
variable {E : Env} {P : Program} {n : Nat} {L L1 L2 : Look} {a : Act} {w w' : World} {G : Gho} {o : Oper} {d : Nat} {h : Hint} {ups : List Upd} {obs : List Prop} {Q : Exit → Act → World → Prop}
def aRun0 (P : Program) (n : Nat) (L : Look) (o : Oper) (h : Hint) : Ans :=
  match o.dst with
  | none => match o.op with | .store T x y => oStoreX P L T x y h | .mapUpdate T m k x => oMapUpdate P L T m k x h | .insert T m k x => oMapUpdate P L T m k x h | _ => none
  | some d => match Nat.blt d n with | true => aOp P L o d h | false => none
def anewU : List Upd → Option AV → Option (List Upd × List Prop)
  | us, none => some (us, [])
  | [], some _ => none
  | [.t d (.v v, own)], some v' => some ([.t d (.v v', own)], [v = v'])
  | u :: us, some v' => match anewU us (some v') with
    | some (us', ob) => some (u :: us', ob)
    | none => none
theorem anewU_spec : ∀ {us : List Upd} {x : Option AV} {vs : List Upd} {ob : List Prop}, anewU us x = some (vs, ob) → (∀ p ∈ ob, p) → vs = us
  | us, none, vs, ob, h, _ => by
    cases us with
    | nil => simp only [anewU] at h; cases h; rfl
    | cons u us => cases us <;> (simp only [anewU] at h; cases h; rfl)
  | [], some _, vs, ob, h, _ => by simp [anewU] at h
  | u :: us, some v', vs, ob, h, hob => by
    have tail : ∀ {us' : List Upd} {ob' : List Prop}, anewU us (some v') = some (us', ob') → vs = u :: us' → ob = ob' → vs = u :: us := by
      rintro us' ob' h1 rfl rfl
      rw [anewU_spec h1 hob]
    unfold anewU at h
    split at h
    · rename_i heq; cases heq
    · cases h
    · rename_i heq1 heq2
      cases heq2
      cases heq1
      cases h
      have : _ = _ := hob _ (List.mem_singleton.2 rfl)
      subst this; rfl
    · rename_i heq1 heq2
      cases heq2
      cases heq1
      split at h
      · rename_i us' ob' h1
        cases h
        exact tail h1 rfl rfl
      · cases h
def aRun1 (P : Program) (n : Nat) (L : Look) (o : Oper) (h : Hint) : Ans :=
  match aRun0 P n L o h with
  | some (us, ob) => match anewU us h.re with
    | some (vs, ob2) => some (vs, ob ++ ob2)
    | none => none
  | none => none
def aRunL (P : Program) (n : Nat) (L : Look) (o : Oper) (h : Hint) : Ans :=
  match h.fx with
  | [] => aRun1 P n L o h
  | fx => match fixLs L fx with
    | some us => match aRun1 P n (L.upds us) o h with
      | some (vs, ob) => some (us ++ vs, ob)
      | none => none
    | none => none
def aSkipL (n : Nat) (o : Oper) : Option (List Upd) :=
  match o.dst with
  | none => some []
  | some d => match Nat.blt d n with | true => some (fresh d ++ [.t d (.v (.tup []), [])]) | false => none
def aStepL (P : Program) (n : Nat) (ops : List Oper) (L : Look) (o : Oper) (h : Hint) : Ans :=
  match o.guard with
  | none => aRunL P n L o h
  | some (j, want) => match (ops[j]?).bind (·.dst) with
    | some t => match L.t t with
      | some (.v (.bool b), _) => match b, want with
        | true, true => aRunL P n L o h
        | false, false => aRunL P n L o h
        | _, _ => match aSkipL n o with | some s => some (s, []) | none => none
      | some (.v (.tup []), _) => match aSkipL n o with | some s => some (s, []) | none => none
      | _ => none
    | none => none
theorem aRun0_sound (hI : SR E L a w) (h1 : aRun0 E.P E.n L o h = some (ups, obs)) (hob : ∀ p ∈ obs, p) : o.wp E.P a w (fun a' w' => SR E (L.upds ups) a' w') Q := by
  obtain ⟨G, hI⟩ := hI
  unfold aRun0 at h1
  split at h1
  · rename_i hd
    split at h1
    · rename_i T x y ho; exact s_storeX hI hd ho h1 hob Q
    · rename_i T m k x ho; exact s_mapUpdate hI hd (.inl ho) h1 hob Q
    · rename_i T m k x ho; exact s_mapUpdate hI hd (.inr ho) h1 hob Q
    · cases h1
  · rename_i d hd
    split at h1
    · rename_i hlt; exact aOp_sound hI hd (lt_of_blt hlt) h1 hob Q
    · cases h1
theorem aRun1_sound (hI : SR E L a w) (h1 : aRun1 E.P E.n L o h = some (ups, obs)) (hob : ∀ p ∈ obs, p) : o.wp E.P a w (fun a' w' => SR E (L.upds ups) a' w') Q := by
  unfold aRun1 at h1
  split at h1
  · rename_i us ob hr
    split at h1
    · rename_i vs ob2 hv
      cases h1
      rw [anewU_spec hv (fun p hp => hob p (by simp [hp]))]
      exact aRun0_sound hI hr (fun p hp => hob p (by simp [hp]))
    · cases h1
  · cases h1
theorem aRunL_sound (hI : SR E L a w) (h1 : aRunL E.P E.n L o h = some (ups, obs)) (hob : ∀ p ∈ obs, p) : o.wp E.P a w (fun a' w' => SR E (L.upds ups) a' w') Q := by
  unfold aRunL at h1
  split at h1
  · exact aRun1_sound hI h1 hob
  · split at h1
    · rename_i us hu
      split at h1
      · rename_i vs ob hv
        cases h1
        have := aRun1_sound (Q := Q) (fixLs_sound hI hu) hv hob
        simpa [Look.upds, List.foldl_append] using this
      · cases h1
    · cases h1
theorem aSkipL_sound (hI : SR E L a w) (h1 : aSkipL E.n o = some ups) : SR E (L.upds ups) (a.put o.dst undef) w := by
  obtain ⟨G, hI⟩ := hI
  unfold aSkipL at h1
  split at h1
  · rename_i hd
    cases h1
    rw [hd]
    exact ⟨G, hI⟩
  · rename_i d hd
    split at h1
    · rename_i hlt
      cases h1
      rw [hd]
      obtain ⟨i1, a1⟩ := hI.fresh (lt_of_blt hlt)
      have e : L.upds (fresh d ++ [.t d (.v (.tup []), [])]) = (L.upds (fresh d)).upd (.t d (.v (.tup []), [])) := by simp [Look.upds, List.foldl_append]
      rw [e]
      exact ⟨G, i1.setT (lt_of_blt hlt) (sv := .v (.tup [])) ⟨[], rfl, rfl⟩ (fun j oe hj => by cases hj)⟩
    · cases h1
theorem yields_of {ops : Array Oper} {j t : Nat} {b : Bool} {own : OwnL} (hI : SR E L a w) (hj : (ops.toList[j]?).bind (·.dst) = some t) (ht : L.t t = some (.v (.bool b), own)) :
    yielded ops a.tmps j = some b := by
  obtain ⟨G, hI⟩ := hI
  have := hI.tm t _ own ht
  have hb : a.tmps.getD t undef = .bool b := this.2.1
  have hlt : t < a.tmps.size := by rw [hI.size]; exact this.1
  have hg : a.tmps[t]? = some (.bool b) := by
    simp only [Array.getD_eq_getD_getElem?, Array.getElem?_eq_getElem hlt, Option.getD_some] at hb
    rw [Array.getElem?_eq_getElem hlt, hb]
  simp only [Array.getElem?_toList] at hj
  simp [yielded, hj, hg]
theorem yields_no {ops : Array Oper} {j t : Nat} {own : OwnL} (hI : SR E L a w) (hj : (ops.toList[j]?).bind (·.dst) = some t) (ht : L.t t = some (.v (.tup []), own)) :
    yielded ops a.tmps j = none := by
  obtain ⟨G, hI⟩ := hI
  have := hI.tm t _ own ht
  obtain ⟨us, hb, hus⟩ : Rel G.X w (.tup []) (a.tmps.getD t undef) := this.2.1
  have hus' : us = [] := hus
  subst hus'
  have hlt : t < a.tmps.size := by rw [hI.size]; exact this.1
  have hg : a.tmps[t]? = some (.tuple #[]) := by
    simp only [Array.getD_eq_getD_getElem?, Array.getElem?_eq_getElem hlt, Option.getD_some] at hb
    rw [Array.getElem?_eq_getElem hlt, hb]
  simp only [Array.getElem?_toList] at hj
  simp [yielded, hj, hg]
theorem aStepL_sound {ops : Array Oper} (hI : SR E L a w) (h1 : aStepL E.P E.n ops.toList L o h = some (ups, obs)) (hob : ∀ p ∈ obs, p)
    {K : Act → World → Prop} (hK : ∀ a' w', SR E (L.upds ups) a' w' → K a' w') :
    if Region.wanted o (yielded ops a.tmps) then o.wp E.P a w K Q ∨ (o.asks E.P a w ∧ LetsOut Q) else K (a.put o.dst undef) w := by
  unfold aStepL at h1
  split at h1
  · rename_i hg
    have : Region.wanted o (yielded ops a.tmps) = true := by simp [Region.wanted, hg]
    rw [if_pos this]
    exact .inl (Oper.wp_mono hK (aRunL_sound hI h1 hob))
  · rename_i j want hg
    split at h1
    · rename_i t hj
      split at h1
      · rename_i b own ht
        have hy := yields_of hI hj ht
        split at h1
        · have : Region.wanted o (yielded ops a.tmps) = true := by simp [Region.wanted, hg, hy]
          rw [if_pos this]
          exact .inl (Oper.wp_mono hK (aRunL_sound hI h1 hob))
        · have : Region.wanted o (yielded ops a.tmps) = true := by simp [Region.wanted, hg, hy]
          rw [if_pos this]
          exact .inl (Oper.wp_mono hK (aRunL_sound hI h1 hob))
        · rename_i q1 q2
          have : Region.wanted o (yielded ops a.tmps) = false := by
            cases b <;> cases want <;> simp_all [Region.wanted]
          rw [this]
          simp only [Bool.false_eq_true, if_false]
          split at h1
          · rename_i s hs
            cases h1
            exact hK _ _ (aSkipL_sound hI hs)
          · cases h1
      · rename_i own ht
        have hy := yields_no hI hj ht
        have : Region.wanted o (yielded ops a.tmps) = false := by simp [Region.wanted, hg, hy]
        rw [this]
        simp only [Bool.false_eq_true, if_false]
        split at h1
        · rename_i s hs
          cases h1
          exact hK _ _ (aSkipL_sound hI hs)
        · cases h1
      · cases h1
    · cases h1
def aStep (P : Program) (n : Nat) (ops : List Oper) (st : St) (o : Oper) (h : Hint) : Option (St × List Prop) :=
  match aStepL P n ops st.look o h with
  | some (ups, obs) => some (st.upds ups, obs)
  | none => none
def aOps (P : Program) (n : Nat) (ops : List Oper) : List Oper → List Hint → St → Option (St × List Prop)
  | [], _, st => some (st, [])
  | o :: rest, hs, st =>
    match aStep P n ops st o (hs.headD {}) with
    | some (st1, ob1) => match aOps P n ops rest hs.tail st1 with
      | some (st2, ob2) => some (st2, ob1 ++ ob2)
      | none => none
    | none => none
theorem aStep_sound {ops : Array Oper} {st st' : St} (hI : SR E st.look a w) (h1 : aStep E.P E.n ops.toList st o h = some (st', obs)) (hob : ∀ p ∈ obs, p)
    {K : Act → World → Prop} (hK : ∀ a' w', SR E st'.look a' w' → K a' w') :
    if Region.wanted o (yielded ops a.tmps) then o.wp E.P a w K Q ∨ (o.asks E.P a w ∧ LetsOut Q) else K (a.put o.dst undef) w := by
  unfold aStep at h1
  split at h1
  · rename_i ups ob hs
    cases h1
    exact aStepL_sound hI hs hob (fun a' w' hI' => hK a' w' (by rw [St.look_upds]; exact hI'))
  · cases h1
theorem aOps_sound {ops : Array Oper} : ∀ (l : List Oper) (k : Nat) (hs : List Hint) (st st' : St) (obs : List Prop) (a : Act) (w : World), (∀ i, l[i]? = ops[k + i]?) → SR E st.look a w →
    aOps E.P E.n ops.toList l hs st = some (st', obs) → (∀ p ∈ obs, p) → (∀ a' w', SR E st'.look a' w' → Q .normal a' w') → wpOps E.P ops Q (List.range' k l.length) a w
  | [], k, hs, st, st', obs, a, w, hl, hI, h, hob, hQ => by
    simp [aOps] at h
    obtain ⟨rfl, _⟩ := h
    exact hQ a w hI
  | o :: rest, k, hs, st, st', obs, a, w, hl, hI, h, hob, hQ => by
    simp only [aOps] at h
    split at h
    · rename_i st1 ob1 h1
      split at h
      · rename_i st2 ob2 h2
        cases h
        have ho : ops[k]? = some o := by have := hl 0; simpa using this.symm
        rw [List.length_cons, List.range'_succ]
        simp only [wpOps, ho]
        exact aStep_sound hI h1 (fun p hp => hob p (by simp [hp])) (fun a' w' hI' =>
          aOps_sound rest (k + 1) hs.tail st1 _ ob2 a' w' (fun i => by
            have := hl (i + 1)
            rw [show k + (i + 1) = k + 1 + i by omega] at this
            simpa using this) hI' h2 (fun p hp => hob p (by simp [hp])) hQ)
      · cases h
    · cases h
end Go.Bv

namespace Go.Bv
open Go.RowKit
inductive AE where
  | normal
  | exit (id : Nat)
  | ret
def AE.toExit : AE → Exit
  | .normal => .normal
  | .exit id => .exit id
  | .ret => .ret
def Wc (E : Env) (c : Code) (st : St) (K : AE → St → Prop) : Prop :=
  ∀ a w, SR E st.look a w → ∀ Q : Exit → Act → World → Prop, (∀ e st' a' w', K e st' → SR E st'.look a' w' → Q e.toExit a' w') → c.wp E.P Q a w
def AllP : List Prop → Prop
  | [] => True
  | p :: ps => p ∧ AllP ps
theorem AllP.mem : ∀ {ps : List Prop}, AllP ps → ∀ p ∈ ps, p
  | [], _, p, h => by cases h
  | q :: ps, ⟨h1, h2⟩, p, h => by
    rcases List.mem_cons.1 h with rfl | h
    · exact h1
    · exact AllP.mem h2 p h
def pickL {α : Type} (l : List (Nat × α)) : List Nat → Option (List (Nat × α))
  | [] => some []
  | k :: ks => match lk l k, pickL l ks with | some v, some r => some ((k, v) :: r) | _, _ => none
def St.keep (s : St) (ts bs gs : List Nat) : Option St :=
  match pickL s.t ts, pickL s.b bs, pickL s.g gs with
  | some t, some b, some g => some ⟨t, b, g⟩
  | _, _, _ => none
def aReg (P : Program) (n : Nat) (ops : Array Oper) (hs : List Hint) (fs : List Fix) (st : St) (ts bs gs : List Nat) : Option (St × List Prop) :=
  match aOps P n ops.toList ops.toList hs st with
  | some (s, obs) => match fixes s fs with
    | some s1 => match s1.keep ts bs gs with
      | some s' => some (s', obs)
      | none => none
    | none => none
  | none => none
theorem pickL_sub {α : Type} {l : List (Nat × α)} : ∀ {ks : List Nat} {r : List (Nat × α)}, pickL l ks = some r → ∀ k v, lk r k = some v → lk l k = some v
  | [], r, h, k, v, hk => by simp [pickL] at h; subst h; simp [lk] at hk
  | j :: ks, r, h, k, v, hk => by
    simp only [pickL] at h
    split at h
    · rename_i v' r' h1 h2
      cases h
      simp only [lk] at hk
      cases hj : Nat.beq j k with
      | true => rw [hj] at hk; cases hk; have := beq_true hj; subst this; exact h1
      | false => rw [hj] at hk; exact pickL_sub h2 k v hk
    · cases h
theorem SR.keep {E : Env} {s s' : St} {a : Act} {w : World} {ts bs gs : List Nat} (hI : SR E s.look a w) (h : s.keep ts bs gs = some s') : SR E s'.look a w := by
  obtain ⟨G, hI⟩ := hI
  unfold St.keep at h
  split at h
  · rename_i t b r h1 h2 h3
    cases h
    refine ⟨G, hI.less ⟨fun s sv own hs => ⟨own, pickL_sub h1 s _ hs, okS_false, fun j oe hj => ⟨hj, okE_false⟩⟩, fun d x hs => ⟨fun h => h.elim id id, x, pickL_sub h2 d _ hs, ?_⟩, fun i own hs => ⟨own, pickL_sub h3 i _ hs, fun j oe hj => ⟨hj, okE_false⟩⟩⟩⟩
    cases x with
    | cells cs own => exact ⟨rfl, fun j oe hj => ⟨hj, okE_false⟩⟩
    | map ks vs => exact ⟨rfl, rfl⟩
    | ref q => exact ⟨rfl, fun h => h⟩
  · cases h
section
variable {E : Env} {st : St} {K : AE → St → Prop}
theorem Wc.fix {c : Code} {st' : St} (fs : List Fix) (ts bs gs : List Nat) (h : ((fixes st fs).bind fun s => s.keep ts bs gs) = some st') (hc : Wc E c st' K) : Wc E c st K := by
  intro a w hI Q hQ
  simp only [Option.bind_eq_some_iff] at h
  obtain ⟨s, h1, h2⟩ := h
  exact hc a w ((fixes_sound hI h1).keep h2) Q hQ
theorem Wc.region {id : Nat} {ops : Array Oper} (hs : List Hint) (fs : List Fix) (ts bs gs : List Nat) (st' : St) (obs : List Prop) (h : aReg E.P E.n ops hs fs st ts bs gs = some (st', obs)) (hob : AllP obs) (hK : K .normal st') :
    Wc E (.region id ops false) st K := by
  intro a w hI Q hQ
  unfold aReg at h
  split at h
  · rename_i s ob h1
    split at h
    · rename_i s1 hf
      split at h
      · rename_i s' h2
        cases h
        refine wp_region ?_
        have hl : ops.toList.length = ops.size := by simp
        rw [← hl, List.range_eq_range']
        exact aOps_sound ops.toList 0 hs st s obs a w (fun i => by simp) hI h1 hob.mem (fun a' w' hI' => hQ .normal st' a' w' hK ((fixes_sound hI' hf).keep h2))
      · cases h
    · cases h
  · cases h
theorem Wc.seq {x y : Code} (h : Wc E x st (fun e st' => match e with | .normal => Wc E y st' K | e => K e st')) : Wc E (.seq x y) st K := by
  intro a w hI Q hQ
  refine wp_seq (h a w hI _ ?_)
  intro e st' a' w' hk hI'
  cases e with
  | normal => exact hk a' w' hI' Q hQ
  | exit id => exact hQ (.exit id) st' a' w' hk hI'
  | ret => exact hQ .ret st' a' w' hk hI'
theorem Wc.skip (h : K .normal st) : Wc E .skip st K := fun a w hI Q hQ => wp_skip (hQ .normal st a w h hI)
theorem Wc.exit {id : Nat} (h : K (.exit id) st) : Wc E (.exit id) st K := fun a w hI Q hQ => wp_exit (hQ (.exit id) st a w h hI)
theorem Wc.ret (h : K .ret st) : Wc E .ret st K := fun a w hI Q hQ => wp_ret (hQ .ret st a w h hI)
theorem Wc.cond {c : Operand} {x y : Code} (b : Bool) (hc : evV st.look c = some (.bool b)) (ht : b = true → Wc E x st K) (hf : b = false → Wc E y st K) : Wc E (.cond c x y) st K := by
  intro a w hI Q hQ
  obtain ⟨G, hI'⟩ := hI
  exact wp_cond_split (evV_rel hI' hc) (fun e => ht e a w ⟨G, hI'⟩ Q hQ) (fun e => hf e a w ⟨G, hI'⟩ Q hQ)
theorem Wc.block {id : Nat} {c : Code} (h : Wc E c st (fun e st' => match e with | .exit j => (match Nat.beq j id with | true => K .normal st' | false => K (.exit j) st') | e => K e st')) : Wc E (.block id c) st K := by
  intro a w hI Q hQ
  refine wp_block (h a w hI _ ?_)
  intro e st' a' w' hk hI'
  cases e with
  | normal => exact hQ .normal st' a' w' hk hI'
  | ret => exact hQ .ret st' a' w' hk hI'
  | exit j =>
    show Exit.inBlock id Q (.exit j) a' w'
    simp only [Exit.inBlock]
    cases hb : Nat.beq j id with
    | true =>
      have e := Nat.eq_of_beq_eq_true hb
      rw [if_pos e]; simp only [hb] at hk; exact hQ .normal st' a' w' hk hI'
    | false =>
      have e : j ≠ id := by intro e; subst e; simp at hb
      rw [if_neg e]; simp only [hb] at hk; exact hQ (.exit j) st' a' w' hk hI'
theorem Wc.seqJ {x y : Code} (R : St → Prop) (h : Wc E x st (fun e st' => match e with | .normal => R st' | e => K e st')) (hy : ∀ st', R st' → Wc E y st' K) : Wc E (.seq x y) st K := by
  refine Wc.seq fun a w hI Q hQ => h a w hI Q fun e st' a' w' hk hI' => ?_
  refine hQ e st' a' w' ?_ hI'
  cases e with
  | normal => exact hy st' hk
  | exit id => exact hk
  | ret => exact hk
theorem Wc.condT {c : Operand} {x y : Code} {b : Bool} (hb : b = true) (hc : evV st.look c = some (.bool b)) (h : Wc E x st K) : Wc E (.cond c x y) st K :=
  Wc.cond b hc (fun _ => h) (fun hf => by rw [hb] at hf; cases hf)
theorem Wc.condF {c : Operand} {x y : Code} {b : Bool} (hb : b = false) (hc : evV st.look c = some (.bool b)) (h : Wc E y st K) : Wc E (.cond c x y) st K :=
  Wc.cond b hc (fun hf => by rw [hb] at hf; cases hf) (fun _ => h)
theorem Wc.loop {c : Code} (J : Nat → St → Prop) (hround : ∀ k st, J k st → Wc E c st (fun e st' => match e with | .normal => ∃ k', k' < k ∧ J k' st' | e => K e st')) (k : Nat) (h : J k st) : Wc E (.loop c) st K := by
  intro a w hI Q hQ
  let I : Nat → Act → World → Prop := fun k a w => ∃ st, J k st ∧ SR E st.look a w
  have hex : ∀ a w, (∃ k, I k a w) → ∃ k, I k a w ∧ ∀ j, I j a w → k ≤ j := by
    intro a w ⟨k, hk⟩
    induction k using Nat.strongRecOn with
    | _ k ih =>
      by_cases hm : ∃ j, j < k ∧ I j a w
      · obtain ⟨j, hj, hi⟩ := hm; exact ih j hj hi
      · exact ⟨k, hk, fun j hj => Nat.le_of_not_lt fun hlt => hm ⟨j, hlt, hj⟩⟩
  classical
  let μ : Act → World → Nat := fun a w => if h : ∃ k, I k a w then Classical.choose (hex a w h) else 0
  refine wp_loop (fun a w => ∃ k, I k a w) μ ⟨k, st, h, hI⟩ ?_
  intro a1 w1 h1
  obtain ⟨hk1, hmin⟩ := Classical.choose_spec (hex a1 w1 h1)
  have hμ : μ a1 w1 = Classical.choose (hex a1 w1 h1) := dif_pos h1
  obtain ⟨st1, hJ1, hI1⟩ := hk1
  refine hround _ st1 hJ1 a1 w1 hI1 _ ?_
  intro e st' a' w' hk hI'
  cases e with
  | exit id => exact hQ (.exit id) st' a' w' hk hI'
  | ret => exact hQ .ret st' a' w' hk hI'
  | normal =>
    obtain ⟨k', hlt, hJ'⟩ := hk
    have hex' : ∃ k, I k a' w' := ⟨k', st', hJ', hI'⟩
    refine ⟨hex', ?_⟩
    show μ a' w' < μ a1 w1
    have h2 : μ a' w' = Classical.choose (hex a' w' hex') := dif_pos hex'
    rw [hμ, h2]
    exact Nat.lt_of_le_of_lt ((Classical.choose_spec (hex a' w' hex')).2 k' ⟨st', hJ', hI'⟩) hlt
theorem Wc.mono {c : Code} {K' : AE → St → Prop} (h : Wc E c st K') (hK : ∀ e st', K' e st' → K e st') : Wc E c st K :=
  fun a w hI Q hQ => h a w hI Q fun e st' a' w' hk hI' => hQ e st' a' w' (hK e st' hk) hI'
end
end Go.Bv

namespace Go.Bv
open Go.RowKit
variable {P : Program} {w w' : World}
def boxA (i : Nat) : Nat := 1000000 + i
def alsA (i : Nat) : OwnL → OwnL
  | [] => []
  | (j, _) :: l => (j, .al (.a i j) []) :: alsA i l
def entryT : Nat → List AD → List (Nat × (SV × OwnL))
  | _, [] => []
  | k, .v x own :: as => (k, (.v x, own)) :: entryT (k + 1) as
  | k, .io x own :: as => (k, (.v x, alsA k own)) :: entryT (k + 1) as
  | k, .p _ _ :: as => (k, (.ptr (boxA k) 0, [])) :: entryT (k + 1) as
def entryB : Nat → List AD → List (Nat × BX)
  | _, [] => []
  | k, .p cs own :: as => (boxA k, .cells cs own) :: entryB (k + 1) as
  | k, _ :: as => entryB (k + 1) as
def entryG : Nat → List AD → List (Nat × OwnL)
  | _, [] => []
  | k, .io _ own :: as => (k, own) :: entryG (k + 1) as
  | k, _ :: as => entryG (k + 1) as
def entry (args : List AD) : St := ⟨entryT 0 args, entryB 0 args, entryG 0 args⟩
theorem entryT_spec : ∀ (args : List AD) (k s : Nat) (sv : SV) (own : OwnL), lk (entryT k args) s = some (sv, own) → ∃ j q, s = k + j ∧ args[j]? = some q ∧
    ((∃ x, q = .v x own ∧ sv = .v x) ∨ (∃ x o, q = .io x o ∧ sv = .v x ∧ own = alsA s o) ∨ (∃ cs o, q = .p cs o ∧ sv = .ptr (boxA s) 0 ∧ own = []))
  | [], k, s, sv, own, h => by simp [entryT, lk] at h
  | q :: args, k, s, sv, own, h => by
    have step : lk (entryT (k + 1) args) s = some (sv, own) → ∃ j q', s = k + j ∧ (q :: args)[j]? = some q' ∧
        ((∃ x, q' = .v x own ∧ sv = .v x) ∨ (∃ x o, q' = .io x o ∧ sv = .v x ∧ own = alsA s o) ∨ (∃ cs o, q' = .p cs o ∧ sv = .ptr (boxA s) 0 ∧ own = [])) := by
      intro h
      obtain ⟨j, y, h1, h2, h3⟩ := entryT_spec args (k + 1) s sv own h
      exact ⟨j + 1, y, by omega, by simpa using h2, h3⟩
    cases q with
    | v x o =>
      simp only [entryT, lk] at h
      cases hk : Nat.beq k s with
      | true => rw [hk] at h; cases h; exact ⟨0, _, (beq_true hk).symm, rfl, .inl ⟨x, rfl, rfl⟩⟩
      | false => rw [hk] at h; exact step h
    | io x o =>
      simp only [entryT, lk] at h
      cases hk : Nat.beq k s with
      | true => rw [hk] at h; cases h; have := beq_true hk; subst this; exact ⟨0, _, rfl, rfl, .inr (.inl ⟨x, o, rfl, rfl, rfl⟩)⟩
      | false => rw [hk] at h; exact step h
    | p cs o =>
      simp only [entryT, lk] at h
      cases hk : Nat.beq k s with
      | true => rw [hk] at h; cases h; have := beq_true hk; subst this; exact ⟨0, _, rfl, rfl, .inr (.inr ⟨cs, o, rfl, rfl, rfl⟩)⟩
      | false => rw [hk] at h; exact step h
theorem entryB_spec : ∀ (args : List AD) (k d : Nat) (x : BX), lk (entryB k args) d = some x → ∃ j cs own, d = boxA (k + j) ∧ args[j]? = some (.p cs own) ∧ x = .cells cs own
  | [], k, d, x, h => by simp [entryB, lk] at h
  | q :: args, k, d, x, h => by
    have step : lk (entryB (k + 1) args) d = some x → ∃ j cs own, d = boxA (k + j) ∧ (q :: args)[j]? = some (.p cs own) ∧ x = .cells cs own := by
      intro h
      obtain ⟨j, cs, own, h1, h2, h3⟩ := entryB_spec args (k + 1) d x h
      exact ⟨j + 1, cs, own, by rw [h1]; unfold boxA; omega, by simpa using h2, h3⟩
    cases q with
    | v x o => exact step h
    | io x o => exact step h
    | p cs o =>
      simp only [entryB, lk] at h
      cases hk : Nat.beq (boxA k) d with
      | true => rw [hk] at h; cases h; exact ⟨0, cs, o, (beq_true hk).symm, rfl, rfl⟩
      | false => rw [hk] at h; exact step h
theorem entryG_spec : ∀ (args : List AD) (k i : Nat) (own : OwnL), lk (entryG k args) i = some own → ∃ j x, i = k + j ∧ args[j]? = some (.io x own)
  | [], k, i, own, h => by simp [entryG, lk] at h
  | q :: args, k, i, own, h => by
    have step : lk (entryG (k + 1) args) i = some own → ∃ j x, i = k + j ∧ (q :: args)[j]? = some (.io x own) := by
      intro h
      obtain ⟨j, x, h1, h2⟩ := entryG_spec args (k + 1) i own h
      exact ⟨j + 1, x, by omega, by simpa using h2⟩
    cases q with
    | v x o => exact step h
    | p cs o => exact step h
    | io x o =>
      simp only [entryG, lk] at h
      cases hk : Nat.beq k i with
      | true => rw [hk] at h; cases h; exact ⟨0, x, (beq_true hk).symm, rfl⟩
      | false => rw [hk] at h; exact step h
theorem AIns.get {X : Gh} {lab : Lab} : ∀ {args : List AD} {us : List Value} {i : Nat}, AIns P X w lab i args us → ∀ j q, args[j]? = some q → ∃ u, us[j]? = some u ∧ AIn P X w lab (i + j) q u
  | [], us, i, h, j, q, hj => by simp at hj
  | a :: args, us, i, ⟨u, r, e, h1, h2⟩, j, q, hj => by
    subst e
    cases j with
    | zero => simp at hj; subst hj; exact ⟨u, rfl, h1⟩
    | succ j =>
      obtain ⟨v, h3, h4⟩ := h2.get j q (by simpa using hj)
      exact ⟨v, by simpa using h3, by rw [show i + (j + 1) = i + 1 + j by omega]; exact h4⟩
theorem AIns.length {X : Gh} {lab : Lab} : ∀ {args : List AD} {us : List Value} {i : Nat}, AIns P X w lab i args us → us.length = args.length
  | [], us, i, h => by rw [show us = [] from h]; rfl
  | a :: args, us, i, ⟨u, r, e, h1, h2⟩ => by subst e; simp [h2.length]
theorem own_of {G : Gho} {p : OP} {oe : OE} {u : Value} {F : List Nat} (hw : oe.owner = true) (hpv : G.pv p = u) (hr : Rs P G.X w oe u F) (hl : ∀ b ∈ F, G.lab b = some (.own p)) : Own P G w p oe u := by
  cases oe with
  | app e => exact ⟨hpv, F, hr, hl⟩
  | ex e dp xs => exact ⟨hpv, F, hr, hl⟩
  | al q π => cases hw
  | sb q π lo sz n => cases hw
theorem mem_alsA {i j : Nat} {oe : OE} : ∀ {own : OwnL}, (j, oe) ∈ alsA i own → oe = .al (.a i j) [] ∧ ∃ x, (j, x) ∈ own
  | [], h => by cases h
  | (k, y) :: l, h => by
    rcases List.mem_cons.1 h with h | h
    · cases h; exact ⟨rfl, y, by simp⟩
    · obtain ⟨h1, x, h2⟩ := mem_alsA h; exact ⟨h1, x, List.mem_cons_of_mem _ h2⟩
def bxE (us : List Value) (d : Nat) : Nat := match us[d - 1000000]? with | some (.pointer (some ⟨b, _, _⟩)) => b | _ => 0
def labE (args : List AD) : Nat × Nat → Option LP
  | (i, 0) => some (.box (boxA i))
  | (i, j + 1) => match args[i]? with
    | some (.v _ _) => some (.own (.t i j))
    | some (.io _ _) => some (.own (.a i j))
    | some (.p _ _) => some (.own (.b (boxA i) j))
    | none => none
def pvE (us : List Value) (w : World) : OP → Value
  | .t i j => ((us[i]?).bind fun u => (Value.flat u)[j]?).getD undef
  | .a i j => ((us[i]?).bind fun u => (Value.flat u)[j]?).getD undef
  | .b d j => ((cellsIn w.heap[bxE us d]?)[j]?).getD undef
def ghoE (X : Gh) (lab : Lab) (args : List AD) (us : List Value) (w : World) : Gho :=
  ⟨X, bxE us, fun b => (lab b).bind (labE args), pvE us w⟩
def envE (P : Program) (n : Nat) (X : Gh) (lab : Lab) (us : List Value) (w : World) (gt : GT P w (fun b => ∃ q, lab b = some q)) : Env :=
  ⟨P, w, X, fun b => ∃ q, lab b = some q, fun i j => pvE us w (.a i j), bxE us, n, gt⟩
theorem boxA_sub (i : Nat) : boxA i - 1000000 = i := by unfold boxA; omega
theorem inv_entry {X : Gh} {lab : Lab} {args : List AD} {us : List Value} {n : Nat} {gt : GT P w (fun b => ∃ q, lab b = some q)} (hn : args.length ≤ n) (hn2 : n ≤ 1000000) (hin : AIns P X w lab 0 args us) (hnew : ∀ b, w.heap.size ≤ b → X b = none ∧ lab b = none) :
    Inv (envE P n X lab us w gt) (entry args).look { tmps := us.toArray ++ Array.replicate (n - us.toArray.size) undef, defers := [] } w (ghoE X lab args us w) := by
  have hul := hin.length
  have htm : ∀ (s : Nat) (u : Value), us[s]? = some u → (us.toArray ++ Array.replicate (n - us.toArray.size) undef).getD s undef = u := by
    intro s u hu
    have hlt := (List.getElem?_eq_some_iff.1 hu).1
    rw [Array.getD_eq_getD_getElem?, Array.getElem?_append_left (by simp; omega)]
    simp [hu]
  refine ⟨by simp [envE]; omega, rfl, Fr.refl _ _, fun _ _ _ => rfl, fun b hb => ?_, fun b p hp => ?_, ⟨fun i j => rfl, hn2, fun d hd => rfl⟩, fun s sv own hs => ?_, fun d x hd => ?_, fun i own hi j oe hj => ?_⟩
  · obtain ⟨h1, h2⟩ := hnew b hb
    exact ⟨h1, by simp [ghoE, h2]⟩
  · refine .inr ?_
    simp only [ghoE, Option.bind_eq_some_iff] at hp
    obtain ⟨q, hq, _⟩ := hp
    exact ⟨q, hq⟩
  · obtain ⟨i, q, e, hq, hc⟩ := entryT_spec args 0 s sv own hs
    rw [Nat.zero_add] at e
    subst e
    obtain ⟨u, hu, hin⟩ := hin.get s q hq
    rw [Nat.zero_add] at hin
    have hlt : s < n := by have := (List.getElem?_eq_some_iff.1 hq).1; omega
    refine ⟨hlt, ?_⟩
    show RelS _ w sv ((us.toArray ++ Array.replicate (n - us.toArray.size) undef).getD s undef) ∧ ∀ j oe, (j, oe) ∈ own → ∃ c, (Value.flat ((us.toArray ++ Array.replicate (n - us.toArray.size) undef).getD s undef))[j]? = some c ∧ _
    rw [htm s u hu]
    rcases hc with ⟨x, rfl, rfl⟩ | ⟨x, o, rfl, rfl, rfl⟩ | ⟨cs, o, rfl, rfl, rfl⟩
    · obtain ⟨hr, he⟩ := hin
      refine ⟨hr, fun j oe hj => ?_⟩
      obtain ⟨hw, c, F, hc, hrs, hl⟩ := he j oe hj
      refine ⟨c, hc, own_of hw (by simp [ghoE, pvE, hu, hc]) hrs (fun b hb => ?_)⟩
      simp [ghoE, hl b hb, labE, hq]
    · obtain ⟨hr, he⟩ := hin
      refine ⟨hr, fun j oe hj => ?_⟩
      obtain ⟨rfl, y, hy⟩ := mem_alsA hj
      obtain ⟨hw, c, F, hc, hrs, hl⟩ := he j y hy
      exact ⟨c, hc, by show c = _; simp [ghoE, pvE, hu, hc], rs_slice hrs⟩
    · obtain ⟨b, vs, e, rfl, h2⟩ := hin
      refine ⟨?_, fun j oe hj => by cases hj⟩
      show _ = Value.pointer (some ⟨bxE us (boxA s), 0, none⟩)
      simp [bxE, boxA_sub, hu]
  · obtain ⟨i, cs, own, rfl, hq, rfl⟩ := entryB_spec args 0 d x hd
    rw [Nat.zero_add] at *
    obtain ⟨u, hu, b, vs, e, rfl, h2, h3, h4, h5, h6⟩ := hin.get i _ hq
    rw [Nat.zero_add] at h2 h6
    have hbx : bxE us (boxA i) = b := by simp [bxE, boxA_sub, hu]
    refine ⟨by show X (bxE us (boxA i)) = _; rw [hbx]; exact h3, by show (lab (bxE us (boxA i))).bind _ = _; rw [hbx, h2]; rfl, vs, e, by show w.heap[bxE us (boxA i)]? = _; rw [hbx]; exact h4, h5, fun j oe hj => ?_⟩
    obtain ⟨hw, c, F, hc, hrs, hl⟩ := h6 j oe hj
    refine ⟨c, by simpa using hc, own_of hw ?_ hrs (fun b hb => by simp [ghoE, hl b hb, labE, hq])⟩
    show ((cellsIn w.heap[bxE us (boxA i)]?)[j]?).getD undef = c
    rw [hbx, h4]
    simp only [cellsIn, hc, Option.getD_some]
  · obtain ⟨k, x, e, hq⟩ := entryG_spec args 0 i own hi
    rw [Nat.zero_add] at e
    subst e
    obtain ⟨u, hu, hr, he⟩ := hin.get i _ hq
    rw [Nat.zero_add] at he
    obtain ⟨hw, c, F, hc, hrs, hl⟩ := he j oe hj
    have hpv : (envE P n X lab us w gt).pv0 i j = c := by simp [envE, pvE, hu, hc]
    rw [hpv]
    exact own_of hw (by simp [ghoE, pvE, hu, hc]) hrs (fun b hb => by simp [ghoE, hl b hb, labE, hq])
end Go.Bv

namespace Go.Bv
open Go.RowKit
variable {E : Env} {P : Program} {w w' : World} {st : St} {a : Act} {G : Gho}
def insO (j : Nat) (x : OE) : OwnL → OwnL
  | [] => [(j, x)]
  | (k, y) :: l => match Nat.ble j k with | true => (j, x) :: (k, y) :: l | false => (k, y) :: insO j x l
theorem mem_insO {j k : Nat} {x y : OE} : ∀ {l : OwnL}, (k, y) ∈ insO j x l → (k, y) = (j, x) ∨ (k, y) ∈ l
  | [], h => by simpa [insO] using h
  | (i, z) :: l, h => by
    simp only [insO] at h
    split at h
    · rcases List.mem_cons.1 h with h | h
      · exact .inl h
      · exact .inr h
    · rcases List.mem_cons.1 h with h | h
      · exact .inr (by rw [h]; exact List.mem_cons_self)
      · rcases mem_insO h with h | h
        · exact .inl h
        · exact .inr (List.mem_cons_of_mem _ h)
def owners : OwnL → OwnL
  | [] => []
  | (j, x) :: l => match x.owner with | true => insO j x (owners l) | false => owners l
theorem mem_owners {j : Nat} {oe : OE} : ∀ {own : OwnL}, (j, oe) ∈ owners own → (j, oe) ∈ own ∧ oe.owner = true
  | [], h => by cases h
  | (k, x) :: l, h => by
    simp only [owners] at h
    split at h
    · rename_i hx
      rcases mem_insO h with e | h
      · cases e; exact ⟨by simp, hx⟩
      · obtain ⟨h1, h2⟩ := mem_owners h; exact ⟨by simp [h1], h2⟩
    · obtain ⟨h1, h2⟩ := mem_owners h; exact ⟨by simp [h1], h2⟩
def noO : OwnL → Bool
  | [] => true
  | _ => false
theorem noO_nil {own : OwnL} (h : noO own = true) : own = [] := by cases own with | nil => rfl | cons q l => cases h
abbrev RP := Option Nat × Option (Nat × Nat × Nat)
def resV (P : Program) (st : St) : ResultVar → Option (AV × OwnL × RP)
  | .tmp t => match lk st.t t with
    | some (.v a, own) => some (a, owners own, some t, none)
    | _ => none
  | .cell t T => match isAggP P T, sizeP P T, lk st.t t with
    | some ag, some s, some (.ptr k off, _) => match lk st.b k with
      | some (.cells cs own) => match fitB ag off s cs.length, ofCells ag ((cs.drop off).take s) with
        | true, some v => match noO (owners (cutO off s own)), Nat.blt k 1000000 with
          | true, _ => some (v, [], none, none)
          | false, true => some (v, owners (cutO off s own), none, some (k, off, s))
          | false, false => none
        | _, _ => none
      | _ => none
    | _, _, _ => none
def consT (t : Option Nat) (off : Nat) (ts : List (Nat × Nat)) : Option (List (Nat × Nat)) :=
  match t with
  | none => some ts
  | some t => match lk ts t with | none => some ((t, off) :: ts) | some _ => none
abbrev KB := Option (Nat × Option (Nat × Nat × Nat))
def consK (x : Option (Nat × Nat × Nat)) (off : Nat) (kb : KB) : Option KB :=
  match x, kb with
  | none, kb => some kb
  | some (k, o, s), none => some (some (k, some (o, s, off)))
  | some _, some _ => none
def resVs (P : Program) (st : St) : Nat → List ResultVar → Option (List AV × OwnL × List (Nat × Nat) × KB)
  | _, [] => some ([], [], [], none)
  | off, rv :: rs => match resV P st rv with
    | some (a, own, t, x) => match resVs P st (off + a.cells.length) rs with
      | some (as, o', ts, kb) => match a.solid || (noO own && noO o'), consT t off ts, consK x off kb with
        | true, some ts', some kb' => some (a :: as, shiftO off own ++ o', ts', kb')
        | _, _, _ => none
      | none => none
    | none => none
def resCell (P : Program) (st : St) (t : Nat) (T : TypeId) : Option (AD × List (Nat × Nat) × KB) :=
  match isAggP P T, sizeP P T, lk st.t t with
  | some ag, some s, some (.ptr k off, _) => match Nat.blt k 1000000, lk st.b k with
    | true, some (.cells cs own) => match fitB ag off s cs.length, ofCells ag ((cs.drop off).take s) with
      | true, some v => match v.solid with
        | true => some (.v v (owners (cutO off s own)), [], some (k, some (off, s, 0)))
        | false => none
      | _, _ => none
    | _, _ => none
  | _, _, _ => none
def resOf (P : Program) (st : St) (rs : List ResultVar) : Option (AD × List (Nat × Nat) × KB) :=
  match rs with
  | [.tmp t] => match lk st.t t with
    | some (.ptr k 0, _) => match Nat.blt k 1000000, lk st.b k with
      | true, some (.cells cs own) => some (.p cs (owners own), [], some (k, none))
      | _, _ => none
    | _ => match resV P st (.tmp t) with
      | some (a, own, _, _) => some (.v a own, [(t, 0)], none)
      | none => none
  | [.cell t T] => resCell P st t T
  | rs => match resVs P st 0 rs with
    | some (as, own, ts, kb) => some (.v (.tup as) own, ts, kb)
    | none => none
def outsOf (st : St) : Nat → List AD → Option (List (Nat × AD))
  | _, [] => some []
  | i, .v _ _ :: as => outsOf st (i + 1) as
  | i, .io _ _ :: as => match lk st.g i, outsOf st (i + 1) as with
    | some own, some r => some ((i, .v .undef (owners own)) :: r)
    | _, _ => none
  | i, .p _ _ :: as => match lk st.b (boxA i), outsOf st (i + 1) as with
    | some (.cells cs own), some r => some ((i, .p cs (owners own)) :: r)
    | _, _ => none
def oneRes (tmps : Array Value) (rv : ResultVar) : Sem Value :=
  match rv with
  | .tmp t => pure (tmps.getD t undef)
  | .cell t T => do loadVar T (← asAddr (tmps.getD t undef))
def placeR (x : RP) (j : Nat) : Option OP :=
  match x with
  | (some t, _) => some (.t t j)
  | (none, some (k, off, s)) => match inRange off s (off + j) with | true => some (.b k (off + j)) | false => none
  | (none, none) => none
theorem run_resV (hI : Inv E st.look a w G) {rv : ResultVar} {v : AV} {own : OwnL} {t : RP} (h : resV E.P st rv = some (v, own, t)) :
    ∃ u, (oneRes a.tmps rv).run E.P w = .ok u w ∧ Rel G.X w v u ∧ ∀ j oe, (j, oe) ∈ own → oe.owner = true ∧ ∃ c F p, placeR t j = some p ∧ (Value.flat u)[j]? = some c ∧ Rs E.P G.X w oe c F ∧ ∀ b ∈ F, G.lab b = some (.own p) := by
  cases rv with
  | tmp t =>
    simp only [resV] at h
    split at h
    · rename_i x own' ht
      cases h
      refine ⟨a.tmps.getD t undef, rfl, (hI.tm t _ _ ht).2.1, fun j oe hj => ?_⟩
      obtain ⟨h1, h2⟩ := mem_owners hj
      obtain ⟨c, hc, ho⟩ := (hI.tm t _ _ ht).2.2 j oe h1
      obtain ⟨F, hF1, hF2⟩ := own_rs ho h2
      exact ⟨h2, c, F, .t t j, rfl, hc, hF1, hF2⟩
    · cases h
  | cell t T =>
    simp only [resV] at h
    split at h
    · rename_i ag s k off own' hag hs ht
      have hu : a.tmps.getD t undef = .pointer (some ⟨G.bx k, off, none⟩) := (hI.tm t _ _ ht).2.1
      split at h
      · rename_i cs ownb hb
        split at h
        · rename_i v' hfit hv
          unfold fitB at hfit
          simp only [Bool.and_eq_true, Bool.or_eq_true, Nat.ble_eq] at hfit
          obtain ⟨hf1, hf2⟩ := hfit
          replace hf2 : ag = true ∨ s = 1 := hf2.imp id Nat.eq_of_beq_eq_true
          obtain ⟨hX0, _, us, e, hheap, hok⟩ := hI.bo k _ hb
          have hrel := hok.rel
          have hlen := hrel.length
          have hrel2 : RelL G.X w ((cs.drop off).take s) ((us.toList.drop off).take s) := (hrel.drop off).take s
          have hl2 : ((us.toList.drop off).take s).length = s := by rw [List.length_take, List.length_drop, hlen]; omega
          have hc2 : CellsAt w (G.bx k) off ((us.toList.drop off).take s) := by
            intro j u hj
            rw [List.getElem?_take] at hj
            split at hj
            · rw [List.getElem?_drop] at hj
              rw [cell_row hheap]; simpa using hj
            · cases hj
          obtain ⟨u, hrun, hu2⟩ := run_loadVar (P := E.P) hag hs hl2 hc2 hf2
          split at h
          · cases h
            exact ⟨u, by simp [oneRes, hu, asAddr, hrun], rel_ofCells hv hrel2 hu2, fun j oe hj => by cases hj⟩
          · cases h
            refine ⟨u, by simp [oneRes, hu, asAddr, hrun], rel_ofCells hv hrel2 hu2, fun j oe hj => ?_⟩
            obtain ⟨q1, q2⟩ := mem_owners hj
            obtain ⟨q3, q4⟩ := mem_cutO q1
            obtain ⟨c, hc, ho⟩ := hok.own _ oe q3
            obtain ⟨F, hF1, hF2⟩ := own_rs ho q2
            have hc' : ((us.toList.drop off).take s)[j]? = some c := by
              rw [List.getElem?_take, if_pos q4, List.getElem?_drop]; simpa using hc
            have hsl : ag = true ∨ ∃ A l k, c = .slice A l k := .inr (own_slice ho q2)
            have hr : inRange off s (off + j) = true := by simp [inRange, q4]
            exact ⟨q2, c, F, .b k (off + j), by simp [placeR, hr], flat_loaded hu2 hc' hsl, hF1, hF2⟩
          · cases h
        · cases h
      · cases h
    · cases h
def kbOwn (kb : KB) (k j : Nat) : Option (Option (Nat × Nat)) :=
  match kb with
  | none => none
  | some (k', x) => match Nat.beq k' k with
    | false => none
    | true => match x with
      | none => some (some (0, j + 1))
      | some (off, s, sh) => match inRange off s j with | true => some (some (0, sh + (j - off) + 1)) | false => some none
def kbBox (kb : KB) (k : Nat) : Option (Option (Nat × Nat)) :=
  match kb with
  | none => none
  | some (k', x) => match Nat.beq k' k with
    | false => none
    | true => match x with
      | none => some (some (0, 0))
      | some _ => some none
def labR (ts : List (Nat × Nat)) (kb : KB) : LP → Option (Nat × Nat)
  | .own (.t s j) => (lk ts s).map fun off => (0, off + j + 1)
  | .own (.b k j) => match kbOwn kb k j with | some r => r | none => if 1000000 ≤ k then some (k - 1000000 + 1, j + 1) else none
  | .box k => match kbBox kb k with | some r => r | none => if 1000000 ≤ k then some (k - 1000000 + 1, 0) else none
  | .own (.a i j) => some (i + 1, j + 1)
  | _ => none
theorem labR_cons {t : Option Nat} {x : Option (Nat × Nat × Nat)} {off : Nat} {ts ts' : List (Nat × Nat)} {kb kb' : KB} (h1 : consT t off ts = some ts') (h2 : consK x off kb = some kb') {p : OP} {j : Nat} (hp : ∀ k i, p = .b k i → k < 1000000)
    (h : labR ts kb (.own p) = some (0, j + 1)) : labR ts' kb' (.own p) = some (0, j + 1) := by
  cases p with
  | t s k =>
    simp only [labR] at h ⊢
    cases t with
    | none => simp only [consT] at h1; cases h1; exact h
    | some t =>
      simp only [consT] at h1
      split at h1
      · rename_i hn
        cases h1
        simp only [lk]
        cases hb : Nat.beq t s with
        | true => have := beq_true hb; subst this; rw [hn] at h; cases h
        | false => exact h
      · cases h1
  | b k i =>
    have hlt := hp k i rfl
    simp only [labR] at h ⊢
    cases x with
    | none => simp only [consK] at h2; cases h2; exact h
    | some x =>
      cases kb with
      | none => simp only [kbOwn] at h; rw [if_neg (by omega)] at h; cases h
      | some q => obtain ⟨a, b, c⟩ := x; simp only [consK] at h2; cases h2
  | a i k => simp only [labR] at h; simp only [labR]; exact h
theorem run_resVs (hI : Inv E st.look a w G) : ∀ (rs : List ResultVar) (off : Nat) (as : List AV) (own : OwnL) (ts : List (Nat × Nat)) (kb : KB), resVs E.P st off rs = some (as, own, ts, kb) →
    ∃ us : List Value, (rs.mapM (oneRes a.tmps) : Sem (List Value)).run E.P w = .ok us w ∧ RelL G.X w as us ∧ (∀ k x, kb = some (k, x) → k < 1000000) ∧
      ∀ j oe, (j, oe) ∈ own → oe.owner = true ∧ ∃ i c F p, j = off + i ∧ (us.flatMap fun v => v.cells.toList)[i]? = some c ∧ Rs E.P G.X w oe c F ∧ (∀ k i, p = .b k i → k < 1000000) ∧ labR ts kb (.own p) = some (0, j + 1) ∧ ∀ b ∈ F, G.lab b = some (.own p)
  | [], off, as, own, ts, kb, h => by
    simp only [resVs] at h; cases h
    exact ⟨[], rfl, rfl, (fun k x e => by cases e), fun j oe hj => by cases hj⟩
  | rv :: rs, off, as, own, ts, kb, h => by
    simp only [resVs] at h
    split at h
    · rename_i v o1 t x h1
      split at h
      · rename_i as' o' ts' kb' h2
        split at h
        · rename_i ts2 kb2 hs ht hk
          cases h
          obtain ⟨u, hr, hrel, ho1⟩ := run_resV hI h1
          obtain ⟨us, hrs, hrels, hkb, ho2⟩ := run_resVs hI rs _ _ _ _ _ h2
          have hxlt : ∀ k o s, x = some (k, o, s) → k < 1000000 := by
            intro k o s e
            subst e
            cases rv with
            | tmp t => simp only [resV] at h1; split at h1 <;> cases h1
            | cell t T =>
              simp only [resV] at h1
              split at h1
              · split at h1
                · split at h1
                  · split at h1
                    · cases h1
                    · rename_i hlt; cases h1; exact lt_of_blt hlt
                    · cases h1
                  · cases h1
                · cases h1
              · cases h1
          have hlt2 : ∀ k y, kb = some (k, y) → k < 1000000 := by
            intro k y e
            cases x with
            | none => simp only [consK] at hk; cases hk; exact hkb k y e
            | some x =>
              obtain ⟨k', o, s⟩ := x
              cases kb' with
              | none => simp only [consK] at hk; cases hk; cases e; exact hxlt _ _ _ rfl
              | some q => simp only [consK] at hk; cases hk
          refine ⟨u :: us, ?_, ⟨u, us, rfl, hrel, hrels⟩, hlt2, fun j oe hj => ?_⟩
          · simp only [List.mapM_cons, Sem.run_bind, hr, Result.andThen_ok, hrs, Sem.run_pure]
          · rcases List.mem_append.1 hj with hj | hj
            · obtain ⟨i, rfl, hi⟩ := mem_shiftO hj
              have hsol : v.solid = true := by
                cases hv : v.solid with
                | true => rfl
                | false =>
                  rw [hv] at hs
                  simp only [Bool.false_or, Bool.and_eq_true] at hs
                  rw [noO_nil hs.1] at hi; cases hi
              obtain ⟨hw, c, F, p, hp, hc, hr1, hr2⟩ := ho1 i oe hi
              have hfl : Value.flat u = u.cells.toList := flat_cells (rel_notuple hrel hsol)
              rw [hfl] at hc
              have hcc : (((u :: us).flatMap fun v => v.cells.toList)[i]?) = some c := by
                rw [List.flatMap_cons, List.getElem?_append_left (List.getElem?_eq_some_iff.1 hc).1]; exact hc
              cases t with
              | some t =>
                simp only [placeR] at hp; cases hp
                refine ⟨hw, i, c, F, _, rfl, hcc, hr1, (fun k i e => by cases e), ?_, hr2⟩
                simp only [consT] at ht
                split at ht
                · cases ht; simp [labR, lk]
                · cases ht
              | none =>
                cases x with
                | none => simp only [placeR] at hp; cases hp
                | some x =>
                  obtain ⟨k, o, s⟩ := x
                  simp only [placeR] at hp
                  split at hp
                  · rename_i hin
                    cases hp
                    refine ⟨hw, i, c, F, _, rfl, hcc, hr1, (fun k i e => by cases e; exact hxlt _ _ _ rfl), ?_, hr2⟩
                    cases kb' with
                    | none => simp only [consK] at hk; cases hk; simp [labR, kbOwn, hin]
                    | some q => simp only [consK] at hk; cases hk
                  · cases hp
            · have hsol : v.solid = true := by
                cases hv : v.solid with
                | true => rfl
                | false =>
                  rw [hv] at hs
                  simp only [Bool.false_or, Bool.and_eq_true] at hs
                  rw [noO_nil hs.2] at hj; cases hj
              obtain ⟨hw, i, c, F, p, rfl, hc, hr1, hp, hl, hr2⟩ := ho2 j oe hj
              have hlen : u.cells.toList.length = v.cells.length := (rel_solid hrel hsol).length
              refine ⟨hw, v.cells.length + i, c, F, p, by omega, ?_, hr1, hp, labR_cons ht hk hp hl, hr2⟩
              rw [List.flatMap_cons, List.getElem?_append_right (by omega), hlen, Nat.add_sub_cancel_left]; exact hc
        · cases h
      · cases h
    · cases h
theorem run_results {fn : Func} {tmps : Array Value} {us : List Value} (h : (fn.results.toList.mapM (oneRes tmps) : Sem (List Value)).run P w = .ok us w) :
    (results fn tmps).run P w = .ok (if h : us.length = 1 then us[0] else .tuple us.toArray) w := by
  have hm : (fn.results.mapM (oneRes tmps)).run P w = .ok us.toArray w := by
    rw [Array.mapM_eq_mapM_toList]
    simp only [Sem.run_map, h, Result.andThen_ok]
  have he : results fn tmps = (do let vs ← fn.results.mapM (oneRes tmps); pure (if h : vs.size = 1 then vs[0] else .tuple vs)) := rfl
  rw [he, Sem.run_bind, hm]
  simp
theorem kb_far {kb : KB} (hkb : ∀ k x, kb = some (k, x) → k < 1000000) {k : Nat} (hk : 1000000 ≤ k) : (∀ j, kbOwn kb k j = none) ∧ kbBox kb k = none := by
  cases kb with
  | none => exact ⟨fun _ => rfl, rfl⟩
  | some p =>
    obtain ⟨k', x⟩ := p
    have := hkb k' x rfl
    have hb : Nat.beq k' k = false := by
      cases h : Nat.beq k' k with
      | false => rfl
      | true => have := beq_true h; omega
    simp [kbOwn, kbBox, hb]
def labX (G : Gho) (ts : List (Nat × Nat)) (kb : KB) : Lab := fun b => (G.lab b).bind (labR ts kb)
theorem outs_spec {X : Gh} {lab : Lab} {us : List Value} {w0 : World} {n : Nat} {gt : GT P w0 (fun b => ∃ q, lab b = some q)} {ts : List (Nat × Nat)} {kb : KB} (hkb : ∀ k x, kb = some (k, x) → k < 1000000) (hI : Inv (envE P n X lab us w0 gt) st.look a w G) :
    ∀ (args : List AD) (i : Nat) (outs : List (Nat × AD)), outsOf st i args = some outs → (∀ j q, args[j]? = some q → ∃ u, us[i + j]? = some u ∧ AIn P X w0 lab (i + j) q u) →
      ∀ k q, (k, q) ∈ outs → ∃ v, us[k]? = some v ∧ AIn P G.X w (labX G ts kb) (k + 1) q v
  | [], i, outs, h, _, k, q, hm => by simp only [outsOf] at h; cases h; cases hm
  | .v x own :: args, i, outs, h, hin, k, q, hm => by
    exact outs_spec hkb hI args (i + 1) outs h (fun j q hj => by
      obtain ⟨u, h1, h2⟩ := hin (j + 1) q (by simpa using hj)
      exact ⟨u, by rw [show i + 1 + j = i + (j + 1) by omega]; exact h1, by rw [show i + 1 + j = i + (j + 1) by omega]; exact h2⟩) k q hm
  | .io x own :: args, i, outs, h, hin, k, q, hm => by
    simp only [outsOf] at h
    split at h
    · rename_i own' r hg hr
      cases h
      rcases List.mem_cons.1 hm with e | hm
      · cases e
        obtain ⟨u, hu, _⟩ := hin 0 _ rfl
        refine ⟨u, hu, trivial, fun j oe hj => ?_⟩
        obtain ⟨h1, h2⟩ := mem_owners hj
        have ho := hI.gr i own' hg j oe h1
        obtain ⟨F, hF1, hF2⟩ := own_rs ho h2
        obtain ⟨A, l, cp, hsl⟩ := own_slice ho h2
        have hc : (Value.flat u)[j]? = some ((envE P n X lab us w0 gt).pv0 i j) := by
          have hu' : us[i]? = some u := hu
          have e : (envE P n X lab us w0 gt).pv0 i j = ((Value.flat u)[j]?).getD undef := by simp [envE, pvE, hu']
          rw [e] at hsl ⊢
          cases hf : (Value.flat u)[j]? with
          | some c => rfl
          | none => rw [hf] at hsl; cases hsl
        refine ⟨h2, _, F, hc, hF1, fun b hb => ?_⟩
        simp [labX, hF2 b hb, labR]
      · exact outs_spec hkb hI args (i + 1) r hr (fun j q hj => by
          obtain ⟨u, h1, h2⟩ := hin (j + 1) q (by simpa using hj)
          exact ⟨u, by rw [show i + 1 + j = i + (j + 1) by omega]; exact h1, by rw [show i + 1 + j = i + (j + 1) by omega]; exact h2⟩) k q hm
    · cases h
  | .p cs own :: args, i, outs, h, hin, k, q, hm => by
    simp only [outsOf] at h
    split at h
    · rename_i cs' own' r hg hr
      cases h
      rcases List.mem_cons.1 hm with e | hm
      · cases e
        obtain ⟨u, hu, b, vs0, e0, rfl, _⟩ := hin 0 _ rfl
        have hu' : us[i]? = some (.pointer (some ⟨b, 0, none⟩)) := hu
        have hbx : G.bx (boxA i) = b := by
          rw [hI.pin.2.2 (boxA i) (by unfold boxA; omega)]
          show bxE us (boxA i) = b
          simp [bxE, boxA_sub, hu']
        obtain ⟨h1, h2, vs, e, h3, h4⟩ := hI.bo (boxA i) _ hg
        have hge : 1000000 ≤ boxA i := by unfold boxA; omega
        obtain ⟨hne, hne2⟩ := kb_far hkb hge
        rw [hbx] at h1 h2 h3
        refine ⟨_, hu, b, vs, e, rfl, ?_, h1, h3, h4.rel, fun j oe hj => ?_⟩
        · simp [labX, h2, labR, hne2, hge, boxA_sub]
        · obtain ⟨q1, q2⟩ := mem_owners hj
          obtain ⟨c, hc, ho⟩ := h4.own j oe q1
          obtain ⟨F, hF1, hF2⟩ := own_rs ho q2
          exact ⟨q2, c, F, by simpa using hc, hF1, fun b hb => by simp [labX, hF2 b hb, labR, hne, hge, boxA_sub]⟩
      · exact outs_spec hkb hI args (i + 1) r hr (fun j q hj => by
          obtain ⟨u, h1, h2⟩ := hin (j + 1) q (by simpa using hj)
          exact ⟨u, by rw [show i + 1 + j = i + (j + 1) by omega]; exact h1, by rw [show i + 1 + j = i + (j + 1) by omega]; exact h2⟩) k q hm
    · cases h
theorem resV_kb {rv : ResultVar} {v : AV} {own : OwnL} {t : Option Nat} {k o s : Nat} (h1 : resV P st rv = some (v, own, t, some (k, o, s))) : k < 1000000 := by
  cases rv with
  | tmp t => simp only [resV] at h1; split at h1 <;> cases h1
  | cell t T =>
    simp only [resV] at h1
    split at h1
    · split at h1
      · split at h1
        · split at h1
          · cases h1
          · rename_i hlt; cases h1; exact lt_of_blt hlt
          · cases h1
        · cases h1
      · cases h1
    · cases h1
theorem resVs_kb : ∀ (rs : List ResultVar) (off : Nat) {as : List AV} {own : OwnL} {ts : List (Nat × Nat)} {kb : KB}, resVs P st off rs = some (as, own, ts, kb) → ∀ k x, kb = some (k, x) → k < 1000000
  | [], off, as, own, ts, kb, h => by simp only [resVs] at h; cases h; intro k x e; cases e
  | rv :: rs, off, as, own, ts, kb, h => by
    simp only [resVs] at h
    split at h
    · rename_i v o1 t x h1
      split at h
      · rename_i as' o' ts' kb' h2
        split at h
        · rename_i ts2 kb2 hs ht hk
          cases h
          intro k y e
          cases x with
          | none => simp only [consK] at hk; cases hk; exact resVs_kb rs _ h2 k y e
          | some x =>
            obtain ⟨k', o, s⟩ := x
            cases kb' with
            | none => simp only [consK] at hk; cases hk; cases e; exact resV_kb h1
            | some q => simp only [consK] at hk; cases hk
        · cases h
      · cases h
    · cases h
theorem resOf_kb {rs : List ResultVar} {r : AD} {ts : List (Nat × Nat)} {kb : KB} (h : resOf P st rs = some (r, ts, kb)) : ∀ k x, kb = some (k, x) → k < 1000000 := by
  unfold resOf at h
  split at h
  · split at h
    · split at h
      · rename_i hlt _; cases h; intro k x e; cases e; exact lt_of_blt hlt
      · cases h
    · split at h
      · cases h; intro k x e; cases e
      · cases h
  · unfold resCell at h
    split at h
    · split at h
      · rename_i hlt _
        split at h
        · split at h
          · cases h; intro k x e; cases e; exact lt_of_blt hlt
          · cases h
        · cases h
      · cases h
    · cases h
  · rename_i rs _ _
    split at h
    · rename_i as own ts' kb' hv
      cases h
      intro k x e
      exact resVs_kb _ _ hv k x e
    · cases h
theorem run_resOf (hI : Inv E st.look a w G) {fn : Func} {r : AD} {ts : List (Nat × Nat)} {kb : KB} (h : resOf E.P st fn.results.toList = some (r, ts, kb)) :
    ∃ u, (results fn a.tmps).run E.P w = .ok u w ∧ AIn E.P G.X w (labX G ts kb) 0 r u := by
  have single : ∀ {rv : ResultVar} {u : Value}, fn.results.toList = [rv] → (oneRes a.tmps rv).run E.P w = .ok u w → (results fn a.tmps).run E.P w = .ok u w := by
    intro rv u hrv hr
    have hl : (fn.results.toList.mapM (oneRes a.tmps) : Sem (List Value)).run E.P w = .ok [u] w := by
      rw [hrv]
      simp only [List.mapM_cons, List.mapM_nil, Sem.run_bind, hr, Result.andThen_ok, Sem.run_pure]
    rw [run_results hl]; rfl
  generalize hrs : fn.results.toList = rs at h
  unfold resOf at h
  split at h
  · rename_i t
    split at h
    · rename_i k own' ht
      split at h
      · rename_i cs own hlt hb
        cases h
        refine ⟨_, single hrs rfl, ?_⟩
        have hu : a.tmps.getD t undef = .pointer (some ⟨G.bx k, 0, none⟩) := (hI.tm t _ _ ht).2.1
        obtain ⟨h1, h2, vs, e, h3, h4⟩ := hI.bo k _ hb
        refine ⟨G.bx k, vs, e, hu, by simp [labX, h2, labR, kbBox], h1, h3, h4.rel, fun j oe hj => ?_⟩
        obtain ⟨q1, q2⟩ := mem_owners hj
        obtain ⟨c, hc, ho⟩ := h4.own j oe q1
        obtain ⟨F, hF1, hF2⟩ := own_rs ho q2
        exact ⟨q2, c, F, by simpa using hc, hF1, fun b hb => by simp [labX, hF2 b hb, labR, kbOwn]⟩
      · cases h
    · split at h
      · rename_i v own t' x' hv
        cases h
        obtain ⟨u, hr, hrel, ho⟩ := run_resV hI hv
        refine ⟨u, single hrs hr, hrel, fun j oe hj => ?_⟩
        obtain ⟨hw, c, F, p, e1, hc, hr1, hr2⟩ := ho j oe hj
        have : p = .t t j := by
          simp only [resV] at hv
          split at hv
          · cases hv; simp only [placeR] at e1; cases e1; rfl
          · cases hv
        subst this
        exact ⟨hw, c, F, hc, hr1, fun b hb => by simp [labX, hr2 b hb, labR, lk]⟩
      · cases h
  · rename_i t T
    unfold resCell at h
    split at h
    · rename_i ag s k off own' hag hs ht
      have hu : a.tmps.getD t undef = .pointer (some ⟨G.bx k, off, none⟩) := (hI.tm t _ _ ht).2.1
      split at h
      · rename_i cs ownb hlt hb
        split at h
        · rename_i v hfit hv
          split at h
          · rename_i hsol
            cases h
            unfold fitB at hfit
            simp only [Bool.and_eq_true, Bool.or_eq_true, Nat.ble_eq] at hfit
            obtain ⟨hf1, hf2⟩ := hfit
            replace hf2 : ag = true ∨ s = 1 := hf2.imp id Nat.eq_of_beq_eq_true
            obtain ⟨hX0, _, us, e, hheap, hok⟩ := hI.bo k _ hb
            have hrel := hok.rel
            have hlen := hrel.length
            have hrel2 : RelL G.X w ((cs.drop off).take s) ((us.toList.drop off).take s) := (hrel.drop off).take s
            have hl2 : ((us.toList.drop off).take s).length = s := by rw [List.length_take, List.length_drop, hlen]; omega
            have hc2 : CellsAt w (G.bx k) off ((us.toList.drop off).take s) := by
              intro j u hj
              rw [List.getElem?_take] at hj
              split at hj
              · rw [List.getElem?_drop] at hj
                rw [cell_row hheap]; simpa using hj
              · cases hj
            obtain ⟨u, hrun, hu2⟩ := run_loadVar (P := E.P) hag hs hl2 hc2 hf2
            have hrelv := rel_ofCells hv hrel2 hu2
            refine ⟨u, single hrs (by simp [oneRes, hu, asAddr, hrun]), hrelv, fun j oe hj => ?_⟩
            obtain ⟨q1, q2⟩ := mem_owners hj
            obtain ⟨q3, q4⟩ := mem_cutO q1
            obtain ⟨c, hc, ho⟩ := hok.own _ oe q3
            obtain ⟨F, hF1, hF2⟩ := own_rs ho q2
            have hc' : ((us.toList.drop off).take s)[j]? = some c := by
              rw [List.getElem?_take, if_pos q4, List.getElem?_drop]; simpa using hc
            have hsl : ag = true ∨ ∃ A l k, c = .slice A l k := .inr (own_slice ho q2)
            refine ⟨q2, c, F, flat_loaded hu2 hc' hsl, hF1, fun b hb => ?_⟩
            have hr : inRange off s (off + j) = true := by
              simp [inRange, q4]
            simp [labX, hF2 b hb, labR, kbOwn, hr]
          · cases h
        · cases h
      · cases h
    · cases h
  · rename_i hn1 hn2
    split at h
    · rename_i as own ts' kb' hv
      cases h
      obtain ⟨us', hr, hrels, _, ho⟩ := run_resVs hI _ _ _ _ _ _ hv
      have hlen1 : us'.length ≠ 1 := by
        intro e1
        have h1 := hrels.length
        have h2 : ∀ (rs : List ResultVar) (off : Nat) (as : List AV) (own : OwnL) (ts : List (Nat × Nat)) (kb : KB), resVs E.P st off rs = some (as, own, ts, kb) → as.length = rs.length := by
          intro rs
          induction rs with
          | nil => intro off as own ts kb h; simp only [resVs] at h; cases h; rfl
          | cons rv rs ih =>
            intro off as own ts kb h
            simp only [resVs] at h
            split at h
            · split at h
              · split at h
                · cases h; simp [ih _ _ _ _ _ ‹_›]
                · cases h
              · cases h
            · cases h
        have h3 := h2 _ _ _ _ _ _ hv
        have : rs.length = 1 := by omega
        obtain ⟨rv, e⟩ := List.length_eq_one_iff.1 this
        cases rv with
        | tmp t => exact hn1 t e
        | cell t T => exact hn2 t T e
      refine ⟨.tuple us'.toArray, by rw [run_results (hrs ▸ hr), dif_neg hlen1], ⟨us', rfl, hrels⟩, fun j oe hj => ?_⟩
      obtain ⟨hw, i, c, F, p, e1, hc, hr1, _, hl, hr2⟩ := ho j oe hj
      rw [Nat.zero_add] at e1
      subst e1
      exact ⟨hw, c, F, hc, hr1, fun b hb => by simp only [labX, hr2 b hb, Option.bind_some]; exact hl⟩
    · cases h
theorem FnO.of {f : Nat} {fn : Func} {c : Code} (hf : P.funcs[f]? = some fn) (hb : fn.body = some c) {args : List AD} {r : AD} {outs : List (Nat × AD)} (hlen : args.length ≤ fn.ntmps) (hn : fn.ntmps ≤ 1000000)
    (h : ∀ w0 X0 Fin pv0 pb gt, Wc ⟨P, w0, X0, Fin, pv0, pb, fn.ntmps, gt⟩ c (entry args) (fun e st => (e = .ret ∨ e = .normal) ∧ (resOf P st fn.results.toList).map Prod.fst = some r ∧ outsOf st 0 args = some outs)) : FnO P f args r outs := by
  intro X w us lab hin hX hgt
  refine calls_of_wp hf hb ?_
  have hI0 := inv_entry (gt := hgt) hlen hn hin hX
  refine h w X (fun b => ∃ q, lab b = some q) (fun i j => pvE us w (.a i j)) (bxE us) hgt _ w ⟨_, hI0⟩ _ ?_
  rintro e st' a' w' ⟨he, hres, hout⟩ ⟨G, hI⟩
  have main : a'.defers = [] ∧ ∃ v, (results fn a'.tmps).run P w' = .ok v w' ∧ ∃ (u : Value) (X' : Gh) (lab' : Lab), Ending.returned v = .returned u ∧ Fr (fun b => ∃ q, lab b = some q) w w' ∧ (∀ b, b < w.heap.size → lab b = none → X' b = X b ∧ lab' b = none) ∧
      (∀ b, w'.heap.size ≤ b → X' b = none ∧ lab' b = none) ∧ AIn P X' w' lab' 0 r u ∧ ∀ i q, (i, q) ∈ outs → ∃ v, us[i]? = some v ∧ AIn P X' w' lab' (i + 1) q v := by
    refine ⟨hI.dfr, ?_⟩
    simp only [Option.map_eq_some_iff] at hres
    obtain ⟨⟨r', ts, kb⟩, hres, e1⟩ := hres
    simp only at e1
    subst e1
    obtain ⟨u, hr, hin'⟩ := run_resOf hI hres
    refine ⟨u, hr, u, G.X, labX G ts kb, rfl, hI.fr, fun b hb hl => ?_, fun b hb => ?_, hin', ?_⟩
    · have hnf : ¬ ∃ q, lab b = some q := by rintro ⟨q, hq⟩; rw [hl] at hq; cases hq
      refine ⟨hI.old b hb hnf, ?_⟩
      simp only [labX]
      cases hg : G.lab b with
      | none => rfl
      | some p =>
        rcases hI.may b p hg with h1 | h1
        · exact absurd hb (Nat.not_lt_of_le h1)
        · exact absurd h1 hnf
    · obtain ⟨h1, h2⟩ := hI.new b hb
      exact ⟨h1, by simp [labX, h2]⟩
    · exact outs_spec (resOf_kb hres) hI args 0 outs hout (fun j q hj => by obtain ⟨u, h1, h2⟩ := hin.get j q hj; exact ⟨u, by rw [Nat.zero_add]; exact h1, h2⟩)
  rcases he with rfl | rfl
  · obtain ⟨h1, v, h2, h3⟩ := main; exact ⟨h1, v, h2, h3⟩
  · obtain ⟨h1, v, h2, h3⟩ := main; exact ⟨h1, v, h2, h3⟩
end Go.Bv

namespace Go.Bv
open Go.RowKit
inductive Key where
  | t (s : Nat)
  | b (d : Nat)
  | g (d : Nat)
inductive Ent where
  | t (e : SV × OwnL)
  | b (e : BX)
  | g (e : OwnL)
def Key.eqb : Key → Key → Bool
  | .t x, .t y => Nat.beq x y
  | .b x, .b y => Nat.beq x y
  | .g x, .g y => Nat.beq x y
  | _, _ => false
theorem Key.eqb_iff {x y : Key} : x.eqb y = true ↔ x = y := by
  cases x <;> cases y <;> simp [Key.eqb]
def Key.fits : Key → Ent → Prop
  | .t _, .t _ | .b _, .b _ | .g _, .g _ => True
  | _, _ => False
def Look.get (L : Look) : Key → Option Ent
  | .t s => (L.t s).map .t
  | .b s => (L.b s).map .b
  | .g s => (L.g s).map .g
def Look.ofGet (g : Key → Option Ent) : Look where
  t s := match g (.t s) with | some (.t e) => some e | _ => none
  b s := match g (.b s) with | some (.b e) => some e | _ => none
  g s := match g (.g s) with | some (.g e) => some e | _ => none
theorem Look.get_ofGet {g : Key → Option Ent} (h : ∀ κ e, g κ = some e → κ.fits e) (κ : Key) : (Look.ofGet g).get κ = g κ := by
  have := h κ
  cases κ with
  | t s => simp only [Look.get, Look.ofGet]; cases hg : g (.t s) with | none => rfl | some e => have := this e hg; cases e <;> simp_all [Key.fits]
  | b s => simp only [Look.get, Look.ofGet]; cases hg : g (.b s) with | none => rfl | some e => have := this e hg; cases e <;> simp_all [Key.fits]
  | g s => simp only [Look.get, Look.ofGet]; cases hg : g (.g s) with | none => rfl | some e => have := this e hg; cases e <;> simp_all [Key.fits]
theorem Look.get_fits {L : Look} {κ : Key} {e : Ent} (h : L.get κ = some e) : κ.fits e := by
  cases κ <;> simp only [Look.get, Option.map_eq_some_iff] at h <;> obtain ⟨x, _, rfl⟩ := h <;> trivial
theorem map_inj {α β : Type} {f : α → β} (hf : ∀ a b, f a = f b → a = b) : ∀ {x y : Option α}, x.map f = y.map f → x = y
  | none, none, _ => rfl
  | some a, some b, h => by simp at h; rw [hf a b h]
  | none, some b, h => by simp at h
  | some a, none, h => by simp at h
theorem Look.ext_get {L L' : Look} (h : ∀ κ, L.get κ = L'.get κ) : L = L' := by
  cases L with
  | mk t b q =>
    cases L' with
    | mk t' b' q' =>
      have h1 : t = t' := funext fun s => map_inj (fun _ _ e => by cases e; rfl) (h (.t s))
      have h2 : b = b' := funext fun s => map_inj (fun _ _ e => by cases e; rfl) (h (.b s))
      have h3 : q = q' := funext fun s => map_inj (fun _ _ e => by cases e; rfl) (h (.g s))
      rw [h1, h2, h3]
def Upd.ent : Upd → Option (Key × Ent)
  | .f _ => none
  | .t s e => some (.t s, .t e)
  | .b s e => some (.b s, .b e)
  | .g s e => some (.g s, .g e)
def wr : List Upd → Key → Option Ent
  | [], _ => none
  | u :: us, κ => match wr us κ with
    | some e => some e
    | none => match u.ent with
      | some (κ', e) => (match κ'.eqb κ with | true => some e | false => none)
      | none => none
theorem wr_fits : ∀ {us : List Upd} {κ : Key} {e : Ent}, wr us κ = some e → κ.fits e
  | [], κ, e, h => by cases h
  | u :: us, κ, e, h => by
    simp only [wr] at h
    split at h
    · rename_i e' h1; cases h; exact wr_fits h1
    · split at h
      · rename_i κ' e' h2
        split at h
        · rename_i hk
          cases h
          have := Key.eqb_iff.1 hk
          subst this
          cases u <;> simp only [Upd.ent] at h2 <;> cases h2 <;> trivial
        · cases h
      · cases h
theorem beq_if {α : Type} (s k : Nat) (x y : α) : (if k = s then x else y) = (match Nat.beq s k with | true => x | false => y) := by
  cases h : Nat.beq s k with
  | true => rw [if_pos (beq_true h).symm]
  | false => rw [if_neg (fun e => beq_false h e.symm)]
theorem match_map {α β : Type} (f : α → β) (c : Bool) (x : α) (y : Option α) : (match c with | true => some x | false => y).map f = (match c with | true => some (f x) | false => y.map f) := by
  cases c <;> rfl
theorem get_upd {L : Look} {u : Upd} {κ' : Key} {e : Ent} (h : u.ent = some (κ', e)) (κ : Key) : (L.upd u).get κ = (match κ'.eqb κ with | true => some e | false => L.get κ) := by
  cases u with
  | f d => cases h
  | t s x => cases h; cases κ <;> simp only [Look.upd, Look.get, Key.eqb, beq_if, match_map]
  | b s x => cases h; cases κ <;> simp only [Look.upd, Look.get, Key.eqb, beq_if, match_map]
  | g s x => cases h; cases κ <;> simp only [Look.upd, Look.get, Key.eqb, beq_if, match_map]
theorem upd_f {L : Look} {r : Ref} (h : NoRef r L) : L.upd (.f r) = L := by
  cases L with
  | mk t b g =>
    simp only [Look.upd]
    congr 1
    · funext k
      cases ht : t k with
      | none => rfl
      | some e => have := h.t k e ht; simp [dropT, this]
    · funext k
      cases ht : b k with
      | none => rfl
      | some e => have := h.b k e ht; simp [dropB, this]
    · funext k
      cases ht : g k with
      | none => rfl
      | some e => have := h.g k e ht; simp [dropG, this]
def Ent.refs (r : Ref) : Ent → Bool
  | .t e => refsT r e
  | .b e => refsB r e
  | .g e => refsL r e
def fNot (e : Ent) : Upd → Bool
  | .f r => !e.refs r
  | _ => true
def fOk : List Upd → Bool
  | [] => true
  | u :: us => (match u.ent with | some (_, e) => us.all (fNot e) | none => true) && fOk us
theorem NoRef.of_get {r : Ref} {L : Look} (h : ∀ κ e, L.get κ = some e → e.refs r = false) : NoRef r L :=
  ⟨fun k e hk => h (.t k) (.t e) (by simp [Look.get, hk]), fun k e hk => h (.b k) (.b e) (by simp [Look.get, hk]), fun k e hk => h (.g k) (.g e) (by simp [Look.get, hk])⟩
theorem NoRef.get {r : Ref} {L : Look} (h : NoRef r L) {κ : Key} {e : Ent} (hk : L.get κ = some e) : e.refs r = false := by
  cases κ <;> simp only [Look.get, Option.map_eq_some_iff] at hk <;> obtain ⟨x, hx, rfl⟩ := hk
  · exact h.t _ _ hx
  · exact h.b _ _ hx
  · exact h.g _ _ hx
theorem get_upds : ∀ (us : List Upd) (L : Look), fOk us = true → (∀ r, Upd.f r ∈ us → NoRef r L) → ∀ κ, (L.upds us).get κ = (wr us κ).or (L.get κ)
  | [], L, _, _, κ => by simp [Look.upds, wr]
  | u :: us, L, h1, h2, κ => by
    show ((L.upd u).upds us).get κ = _
    simp only [fOk, Bool.and_eq_true] at h1
    have key : (∀ r, Upd.f r ∈ us → NoRef r (L.upd u)) → ((L.upd u).upds us).get κ = (wr us κ).or ((L.upd u).get κ) := fun b => get_upds us _ h1.2 b κ
    cases hu : u.ent with
    | none =>
      cases u with
      | f d =>
        have hd := h2 d (by simp)
        have he : L.upd (.f d) = L := upd_f hd
        rw [key (fun d' hd' => by rw [he]; exact h2 d' (List.mem_cons_of_mem _ hd')), he]
        simp only [wr, hu]
        cases wr us κ <;> rfl
      | _ => cases hu
    | some p =>
      obtain ⟨κ', e⟩ := p
      have hkey : (wr (u :: us) κ).or (L.get κ) = (wr us κ).or ((L.upd u).get κ) := by
        rw [get_upd hu κ]
        simp only [wr, hu]
        cases wr us κ with
        | some e => rfl
        | none => cases κ'.eqb κ <;> rfl
      rw [hkey]
      refine key (fun r hr => NoRef.of_get fun κ2 e2 hg => ?_)
      rw [get_upd hu κ2] at hg
      split at hg
      · cases hg
        have h3 := h1.1
        rw [hu] at h3
        have := List.all_eq_true.1 h3 _ hr
        simpa [fNot] using this
      · exact (h2 r (List.mem_cons_of_mem _ hr)).get hg
def hasKey (κ : Key) : List Upd → Bool
  | [] => false
  | u :: us => (match u.ent with | some (κ', _) => κ'.eqb κ | none => false) || hasKey κ us
theorem wr_none : ∀ {us : List Upd} {κ : Key}, hasKey κ us = false → wr us κ = none
  | [], κ, h => rfl
  | u :: us, κ, h => by
    simp only [hasKey, Bool.or_eq_false_iff] at h
    simp only [wr, wr_none h.2]
    cases hu : u.ent with
    | none => rfl
    | some p => have := h.1; rw [hu] at this; simp only [] at this ⊢; rw [this]
def lastE : List (List Upd) → Nat → (Nat → Bool) → Key → Option Ent
  | [], _, _, _ => none
  | us :: E, k, S, κ => match lastE E (k + 1) S κ with
    | some e => some e
    | none => match S k with
      | true => wr us κ
      | false => none
theorem lastE_fits : ∀ {E : List (List Upd)} {k : Nat} {S : Nat → Bool} {κ : Key} {e : Ent}, lastE E k S κ = some e → κ.fits e
  | [], k, S, κ, e, h => by cases h
  | us :: E, k, S, κ, e, h => by
    simp only [lastE] at h
    split at h
    · rename_i e' h1; cases h; exact lastE_fits h1
    · split at h
      · exact wr_fits h
      · cases h
theorem lastE_congr : ∀ {E : List (List Upd)} {k : Nat} {S S' : Nat → Bool} {κ : Key}, (∀ j us, E[j]? = some us → hasKey κ us = true → S (k + j) = S' (k + j)) → lastE E k S κ = lastE E k S' κ
  | [], k, S, S', κ, h => rfl
  | us :: E, k, S, S', κ, h => by
    have h1 : lastE E (k + 1) S κ = lastE E (k + 1) S' κ := lastE_congr fun j us hj hk => by
      have := h (j + 1) us (by simpa using hj) hk
      rwa [show k + (j + 1) = k + 1 + j by omega] at this
    simp only [lastE, h1]
    cases hk : hasKey κ us with
    | true => have := h 0 us (by simp) hk; rw [Nat.add_zero] at this; rw [this]
    | false => rw [wr_none hk]; cases S k <;> cases S' k <;> rfl
theorem lastE_add : ∀ {E : List (List Upd)} {k i : Nat} {S S' : Nat → Bool} {κ : Key} {us : List Upd}, E[i]? = some us → S (k + i) = false → S' (k + i) = true → (∀ j, j ≠ k + i → S' j = S j) →
    (∀ j vs, E[j]? = some vs → i < j → hasKey κ us = true → hasKey κ vs = true → S (k + j) = false) → lastE E k S' κ = (wr us κ).or (lastE E k S κ)
  | [], k, i, S, S', κ, us, h, _, _, _, _ => by simp at h
  | vs :: E, k, 0, S, S', κ, us, h, hS, hS', hne, hw => by
    simp at h
    subst h
    simp only [Nat.add_zero] at hS hS' hne
    have h1 : lastE E (k + 1) S' κ = lastE E (k + 1) S κ := lastE_congr fun j us hj hk => hne _ (by omega)
    simp only [lastE, h1, hS, hS']
    cases hk : hasKey κ vs with
    | false =>
      rw [wr_none hk]
      cases lastE E (k + 1) S κ <;> rfl
    | true =>
      have h2 : lastE E (k + 1) S κ = none := by
        have : lastE E (k + 1) S κ = lastE E (k + 1) (fun _ => false) κ := lastE_congr fun j us hj hk' => by
          have := hw (j + 1) us (by simpa using hj) (by omega) hk hk'
          rwa [show k + (j + 1) = k + 1 + j by omega] at this
        rw [this]
        clear this h1 hw hne hS hS'
        generalize k + 1 = m
        induction E generalizing m with
        | nil => rfl
        | cons x E ih => simp only [lastE, ih]
      rw [h2]
      cases wr vs κ <;> rfl
  | vs :: E, k, i + 1, S, S', κ, us, h, hS, hS', hne, hw => by
    have h1 : lastE E (k + 1) S' κ = (wr us κ).or (lastE E (k + 1) S κ) := by
      refine lastE_add (i := i) (by simpa using h) ?_ ?_ ?_ ?_
      · rwa [show k + 1 + i = k + (i + 1) by omega]
      · rwa [show k + 1 + i = k + (i + 1) by omega]
      · intro j hj; exact hne j (by omega)
      · intro j ws hj hlt h3 h4
        have := hw (j + 1) ws (by simpa using hj) (by omega) h3 h4
        rwa [show k + (j + 1) = k + 1 + j by omega] at this
    have hk : S' k = S k := hne k (by omega)
    simp only [lastE, h1, hk]
    cases wr us κ with
    | none => rfl
    | some e => rfl
def LS (L0 : Look) (E : List (List Upd)) (S : Nat → Bool) : Look := Look.ofGet fun κ => (lastE E 0 S κ).or (L0.get κ)
theorem LS_get (L0 : Look) (E : List (List Upd)) (S : Nat → Bool) (κ : Key) : (LS L0 E S).get κ = (lastE E 0 S κ).or (L0.get κ) := by
  refine Look.get_ofGet (fun κ e h => ?_) κ
  cases hl : lastE E 0 S κ with
  | some e' => rw [hl] at h; cases h; exact lastE_fits hl
  | none => rw [hl] at h; exact Look.get_fits h
def Look.over (s : St) (X : Look) : Look where
  t k := match lk s.t k with | some e => some e | none => X.t k
  b k := match lk s.b k with | some e => some e | none => X.b k
  g k := match lk s.g k with | some e => some e | none => X.g k
theorem Look.over_eq {s : St} {L : Look} (h : ∀ κ e, s.look.get κ = some e → L.get κ = some e) : Look.over s L = L := by
  refine Look.ext_get fun κ => ?_
  cases κ with
  | t k =>
    cases hk : lk s.t k with
    | none => simp [Look.get, Look.over, hk]
    | some e => have := h (.t k) (.t e) (by simp [Look.get, St.look, hk]); rw [this]; simp [Look.get, Look.over, hk]
  | b k =>
    cases hk : lk s.b k with
    | none => simp [Look.get, Look.over, hk]
    | some e => have := h (.b k) (.b e) (by simp [Look.get, St.look, hk]); rw [this]; simp [Look.get, Look.over, hk]
  | g k =>
    cases hk : lk s.g k with
    | none => simp [Look.get, Look.over, hk]
    | some e => have := h (.g k) (.g e) (by simp [Look.get, St.look, hk]); rw [this]; simp [Look.get, Look.over, hk]
end Go.Bv

namespace Go.Bv
open Go.RowKit
def binding (e : Edge) : Bool := Region.binds .any e
def maskE (acc : List Nat) : List Edge → Nat
  | [] => 0
  | e :: es => match binding e with
    | true => Nat.lor (Nat.lor (Nat.shiftLeft 1 e.on) (acc.getD e.on 0)) (maskE acc es)
    | false => maskE acc es
def masks : List Oper → List Nat → List Nat
  | [], acc => acc
  | o :: l, acc => masks l (acc ++ [maskE acc o.after.toList])
def DC (ops : List Oper) (S : Nat → Bool) : Prop := ∀ (i : Nat) (o : Oper), ops[i]? = some o → S i = true → ∀ e ∈ o.after.toList, binding e = true → S e.on = true
def Good (ops : List Oper) (A : List Nat) (i : Nat) (o : Oper) : Prop :=
  ∀ S, DC ops S → (∀ e ∈ o.after.toList, binding e = true → S e.on = true) → ∀ j, Nat.testBit (A.getD i 0) j = true → S j = true
theorem maskE_spec {acc : List Nat} : ∀ {es : List Edge} {j : Nat}, Nat.testBit (maskE acc es) j = true → ∃ e ∈ es, binding e = true ∧ (j = e.on ∨ Nat.testBit (acc.getD e.on 0) j = true)
  | [], j, h => by simp [maskE] at h
  | e :: es, j, h => by
    simp only [maskE] at h
    split at h
    · rename_i hb
      have h' : Nat.testBit ((1 <<< e.on ||| acc.getD e.on 0) ||| maskE acc es) j = true := h
      rw [Nat.testBit_or, Nat.testBit_or, Bool.or_eq_true, Bool.or_eq_true] at h'
      rcases h' with (h1 | h1) | h1
      · refine ⟨e, by simp, hb, .inl ?_⟩
        rw [Nat.one_shiftLeft, Nat.testBit_two_pow] at h1
        simpa using (of_decide_eq_true h1).symm
      · exact ⟨e, by simp, hb, .inr h1⟩
      · obtain ⟨e', he', h2⟩ := maskE_spec h1
        exact ⟨e', by simp [he'], h2⟩
    · obtain ⟨e', he', h2⟩ := maskE_spec h
      exact ⟨e', by simp [he'], h2⟩
theorem masks_spec {ops : List Oper} : ∀ (l pre : List Oper) (acc : List Nat), ops = pre ++ l → acc.length = pre.length → (∀ i o, pre[i]? = some o → Good ops acc i o) →
    ∀ i o, ops[i]? = some o → Good ops (masks l acc) i o
  | [], pre, acc, he, hl, hg, i, o, hi => by
    simp at he; subst he; exact hg i o hi
  | x :: l, pre, acc, he, hl, hg, i, o, hi => by
    refine masks_spec l (pre ++ [x]) (acc ++ [maskE acc x.after.toList]) (by simp [he]) (by simp [hl]) ?_ i o hi
    intro k y hk
    by_cases hlt : k < pre.length
    · rw [List.getElem?_append_left hlt] at hk
      have := hg k y hk
      unfold Good at this ⊢
      rw [List.getD_eq_getElem?_getD] at this ⊢
      rw [List.getElem?_append_left (by omega)]
      exact this
    · have hlen : k < (pre ++ [x]).length := (List.getElem?_eq_some_iff.1 hk).1
      simp at hlen
      have hk' : k = pre.length := by omega
      subst hk'
      simp at hk
      subst hk
      intro S hS hr j hj
      rw [List.getD_eq_getElem?_getD, List.getElem?_append_right (by omega)] at hj
      simp [hl] at hj
      obtain ⟨e, he1, he2, he3⟩ := maskE_spec hj
      rcases he3 with rfl | he3
      · exact hr e he1 he2
      · have hon := hr e he1 he2
        by_cases hlt' : e.on < pre.length
        · have hp : pre[e.on]? = some pre[e.on] := List.getElem?_eq_getElem hlt'
          refine hg e.on _ hp S hS (fun e' h1 h2 => hS e.on _ ?_ hon e' h1 h2) j he3
          rw [he, List.getElem?_append_left hlt']; exact hp
        · rw [List.getD_eq_getElem?_getD, List.getElem?_eq_none (by omega)] at he3
          simp at he3
def opdT : Operand → List Nat
  | .tmp t => [t]
  | _ => []
def optT : Option Operand → List Nat
  | some x => opdT x
  | none => []
def opTmps : Op → List Nat
  | .move x | .assign x | .box _ x | .load _ x | .nilCheck x | .unOp _ _ x | .convert _ _ x | .fieldAddr _ x _ | .field _ x _ | .extract x _ => opdT x
  | .pick c x y => opdT c ++ opdT x ++ opdT y
  | .build _ ps | .buildSlice _ _ ps => ps.toList.flatMap fun p => opdT p.2
  | .store _ x y | .binOp _ _ x y _ | .makeSlice _ x y | .indexAddr _ x y | .index _ x y => opdT x ++ opdT y
  | .makeFunc _ _ c => c.toList.flatMap opdT
  | .slice _ x l h _ => opdT x ++ optT l ++ optT h
  | .call c => (match c.callee with | .value g => opdT g | _ => []) ++ c.args.toList.flatMap opdT
  | .lookup _ x i _ => opdT x ++ opdT i
  | .mapUpdate _ m k x | .insert _ m k x => opdT m ++ opdT k ++ opdT x
  | _ => []
def sub {α : Type} (p : Nat → Bool) : List (Nat × α) → List (Nat × α)
  | [] => []
  | (k, e) :: l => match p k with | true => (k, e) :: sub p l | false => sub p l
theorem lk_sub {α : Type} {p : Nat → Bool} : ∀ {l : List (Nat × α)} {k : Nat} {e : α}, lk (sub p l) k = some e → lk l k = some e
  | [], k, e, h => by cases h
  | (j, x) :: l, k, e, h => by
    simp only [sub] at h
    simp only [lk]
    cases hp : p j with
    | true =>
      rw [hp] at h
      simp only [lk] at h
      cases hj : Nat.beq j k with
      | true => rw [hj] at h; exact h
      | false => rw [hj] at h; exact lk_sub h
    | false =>
      rw [hp] at h
      have := lk_sub h
      cases hj : Nat.beq j k with
      | true =>
        exfalso
        have hjk := beq_true hj
        subst hjk
        have hno : ∀ (l : List (Nat × α)), lk (sub p l) j = none := by
          intro l
          induction l with
          | nil => rfl
          | cons q l ih =>
            obtain ⟨q1, q2⟩ := q
            simp only [sub]
            cases hq : p q1 with
            | true =>
              simp only [lk]
              cases hb : Nat.beq q1 j with
              | true => have := beq_true hb; subst this; rw [hp] at hq; cases hq
              | false => exact ih
            | false => exact ih
        rw [hno l] at h
        cases h
      | false => exact this
def rootKey : OP → Key
  | .t s _ => .t s
  | .b d _ => .b d
  | .a i _ => .g i
def rootsO : OwnL → List Key
  | [] => []
  | (_, .al p _) :: l => rootKey p :: rootsO l
  | (_, .sb p _ _ _ _) :: l => rootKey p :: rootsO l
  | _ :: l => rootsO l
def rootsT : List (Nat × (SV × OwnL)) → List Key
  | [] => []
  | (_, (sv, own)) :: l => (match sv with | .ptr d _ => [.b d] | .mp d => [.b d] | .el p _ _ _ _ => [rootKey p] | .v _ => []) ++ (rootsO own ++ rootsT l)
def tsIn : List Key → List Nat
  | [] => []
  | .t s :: l => s :: tsIn l
  | _ :: l => tsIn l
def bsIn : List Key → List Nat
  | [] => []
  | .b s :: l => s :: bsIn l
  | _ :: l => bsIn l
def gsIn : List Key → List Nat
  | [] => []
  | .g s :: l => s :: gsIn l
  | _ :: l => gsIn l
def rootsTn : List (Nat × (SV × OwnL)) → List Key
  | [] => []
  | (_, (sv, own)) :: l => (match sv with | .el p _ _ _ _ => [rootKey p] | _ => []) ++ (rootsO own ++ rootsTn l)
def noMem : Op → Bool
  | .move _ | .assign _ | .nilCheck _ | .fieldAddr _ _ _ => true
  | _ => false
def noRef : Op → Bool
  | .move _ | .assign _ => true
  | _ => false
def restr (ops : List Oper) (st : St) (o : Oper) : St :=
  let ts := opTmps o.op ++ (match o.guard with | some (j, _) => (match (ops[j]?).bind (·.dst) with | some t => [t] | none => []) | none => [])
  let ks := match noRef o.op with | true => [] | false => match noMem o.op with | true => rootsTn (sub (fun k => memN k ts) st.t) | false => rootsT (sub (fun k => memN k ts) st.t)
  ⟨sub (fun k => memN k ts || memN k (tsIn ks)) st.t, sub (fun k => memN k (bsIn ks)) st.b, sub (fun k => memN k (gsIn ks)) st.g⟩
theorem restr_le (ops : List Oper) (st : St) (o : Oper) {κ : Key} {e : Ent} (h : (restr ops st o).look.get κ = some e) : st.look.get κ = some e := by
  cases κ <;> simp only [Look.get, Option.map_eq_some_iff] at h ⊢ <;> obtain ⟨x, hx, rfl⟩ := h
  · exact ⟨x, lk_sub hx, rfl⟩
  · exact ⟨x, lk_sub hx, rfl⟩
  · exact ⟨x, lk_sub hx, rfl⟩
def fsOf : List Upd → List Ref
  | [] => []
  | .f d :: us => d :: fsOf us
  | _ :: us => fsOf us
theorem mem_fsOf : ∀ {us : List Upd} {d : Ref}, Upd.f d ∈ us → d ∈ fsOf us
  | [], d, h => by cases h
  | u :: us, d, h => by
    rcases List.mem_cons.1 h with rfl | h1
    · simp [fsOf]
    · have := mem_fsOf h1
      cases u <;> simp [fsOf, this]
def noInB (st : St) (r : Ref) : Bool := (st.t.all fun p => !refsT r p.2) && (st.b.all fun p => !refsB r p.2) && (st.g.all fun p => !refsL r p.2)
theorem lk_mem {α : Type} : ∀ {l : List (Nat × α)} {k : Nat} {e : α}, lk l k = some e → (k, e) ∈ l
  | [], k, e, h => by cases h
  | (j, x) :: l, k, e, h => by
    simp only [lk] at h
    cases hj : Nat.beq j k with
    | true => rw [hj] at h; cases h; have := beq_true hj; subst this; simp
    | false => rw [hj] at h; simp [lk_mem h]
theorem noInB_spec {st : St} {r : Ref} (h : noInB st r = true) : NoRef r st.look := by
  simp only [noInB, Bool.and_eq_true] at h
  exact ⟨fun s e he => by have := List.all_eq_true.1 h.1.1 _ (lk_mem he); simpa using this, fun s e he => by have := List.all_eq_true.1 h.1.2 _ (lk_mem he); simpa using this, fun s e he => by have := List.all_eq_true.1 h.2 _ (lk_mem he); simpa using this⟩
structure Evt where
  rd : St
  ups : List Upd
def dRun (X : Look) (P : Program) (n : Nat) (ops : List Oper) : List Oper → List Hint → St → Option (List Evt × St × List Prop)
  | [], _, st => some ([], st, [])
  | o :: rest, hs, st =>
    match aStepL P n ops (Look.over (restr ops st o) X) o (hs.headD {}) with
    | some (ups, ob1) => match fOk ups && (fsOf ups).all (noInB st) with
      | true => match dRun X P n ops rest hs.tail (st.upds ups) with
        | some (E, st2, ob2) => some (⟨restr ops st o, ups⟩ :: E, st2, ob1 ++ ob2)
        | none => none
      | false => none
    | none => none
theorem blt_yes {i j : Nat} (h : i < j) : Nat.blt i j = true := by simp only [Nat.blt]; exact Nat.ble_eq_true_of_le h
theorem blt_no {i j : Nat} (h : j ≤ i) : Nat.blt i j = false := by
  cases hb : Nat.blt i j with
  | false => rfl
  | true => simp only [Nat.blt] at hb; have := Nat.le_of_ble_eq_true hb; omega
def upsOf : List Evt → List (List Upd)
  | [] => []
  | e :: E => e.ups :: upsOf E
theorem upsOf_get : ∀ {E : List Evt} {j : Nat}, (upsOf E)[j]? = (E[j]?).map (·.ups)
  | [], j => by simp [upsOf]
  | e :: E, 0 => by simp [upsOf]
  | e :: E, j + 1 => by simp [upsOf, upsOf_get (E := E) (j := j)]
theorem lastE_out : ∀ {E : List (List Upd)} {k : Nat} {S : Nat → Bool} {κ : Key}, (∀ j, k ≤ j → S j = false) → lastE E k S κ = none
  | [], k, S, κ, h => rfl
  | us :: E, k, S, κ, h => by
    simp only [lastE, lastE_out (E := E) (k := k + 1) (fun j hj => h j (by omega)), h k (Nat.le_refl k)]
variable {P : Program} {n : Nat} {X : Look}
theorem get_upds_st {st : St} {ups : List Upd} (h : (fOk ups && (fsOf ups).all (noInB st)) = true) (κ : Key) : (st.upds ups).look.get κ = (wr ups κ).or (st.look.get κ) := by
  rw [Bool.and_eq_true] at h
  rw [St.look_upds]
  exact get_upds ups _ h.1 (fun d hd => noInB_spec (List.all_eq_true.1 h.2 d (mem_fsOf hd))) κ
theorem dRun_spec {ops : List Oper} : ∀ (l : List Oper) (hs : List Hint) (st : St) (k : Nat) (E : List Evt) (fin : St) (obs : List Prop), dRun X P n ops l hs st = some (E, fin, obs) →
    E.length = l.length ∧
    (∀ κ, fin.look.get κ = (lastE (upsOf E) k (fun _ => true) κ).or (st.look.get κ)) ∧
    (∀ j ev, E[j]? = some ev → fOk ev.ups = true ∧ (∀ κ e, ev.rd.look.get κ = some e → (lastE (upsOf E) k (fun i => Nat.blt i (k + j)) κ).or (st.look.get κ) = some e) ∧
      ∃ o h ob, l[j]? = some o ∧ aStepL P n ops (Look.over ev.rd X) o h = some (ev.ups, ob) ∧ ∀ p ∈ ob, p ∈ obs)
  | [], hs, st, k, E, fin, obs, h => by
    simp only [dRun] at h
    cases h
    exact ⟨rfl, fun κ => by simp [upsOf, lastE], fun j ev hj => by simp at hj⟩
  | o :: rest, hs, st, k, E, fin, obs, h => by
    simp only [dRun] at h
    split at h
    · rename_i ups ob1 h1
      split at h
      · rename_i hf
        split at h
        · rename_i E' st2 ob2 h2
          cases h
          obtain ⟨i1, i2, i3⟩ := dRun_spec rest hs.tail (st.upds ups) (k + 1) E' _ ob2 h2
          refine ⟨by simp [i1], ?_, ?_⟩
          · intro κ
            rw [i2 κ, get_upds_st hf κ]
            simp only [upsOf, lastE]
            cases lastE (upsOf E') (k + 1) (fun _ => true) κ <;> rfl
          · intro j ev hj
            cases j with
            | zero =>
              simp at hj
              subst hj
              refine ⟨(Bool.and_eq_true _ _ ▸ hf).1, ?_, ⟨o, _, ob1, by simp, h1, fun p hp => by simp [hp]⟩⟩
              intro κ e he
              rw [lastE_out (fun j hj => blt_no (by omega))]
              exact restr_le ops st o he
            | succ j =>
              obtain ⟨j1, j2, o', h', ob, j3, j4, j5⟩ := i3 j ev (by simpa using hj)
              refine ⟨j1, ?_, ⟨o', h', ob, by simpa using j3, j4, fun p hp => by simp [j5 p hp]⟩⟩
              intro κ e he
              have := j2 κ e he
              rw [get_upds_st hf κ] at this
              have hk : Nat.blt k (k + (j + 1)) = true := blt_yes (by omega)
              simp only [upsOf, lastE, hk]
              rw [show k + (j + 1) = k + 1 + j by omega]
              rw [← this]
              cases lastE (upsOf E') (k + 1) (fun i => Nat.blt i (k + 1 + j)) κ <;> rfl
        · cases h
      · cases h
    · cases h
end Go.Bv

namespace Go.Bv
open Go.RowKit
def ordd (A : List Nat) (i j : Nat) : Bool := Nat.beq i j || (Nat.blt j i && Nat.testBit (A.getD i 0) j) || (Nat.blt i j && Nat.testBit (A.getD j 0) i)
def chkK (A : List Nat) (i : Nat) (κ : Key) : List Evt → Nat → Bool
  | [], _ => true
  | e :: E, j => (!hasKey κ e.ups || ordd A i j) && chkK A i κ E (j + 1)
def keysT {α : Type} (f : Nat → Key) : List (Nat × α) → List Key
  | [] => []
  | (k, _) :: l => f k :: keysT f l
def keysOf (st : St) : List Key := keysT .t st.t ++ (keysT .b st.b ++ keysT .g st.g)
def updKeys : List Upd → List Key
  | [] => []
  | u :: us => match u.ent with | some (κ, _) => κ :: updKeys us | none => updKeys us
def intoAny (r : Ref) : List Upd → Bool
  | [] => false
  | u :: us => (match u.ent with | some (_, e) => e.refs r | none => false) || intoAny r us
def chkF (A : List Nat) (i : Nat) (d : Ref) : List Evt → Nat → Bool
  | [], _ => true
  | e :: E, j => (!intoAny d e.ups || Nat.beq i j || (Nat.blt i j && Nat.testBit (A.getD j 0) i)) && chkF A i d E (j + 1)
def chkOne (A : List Nat) (st0 : St) (E : List Evt) (i : Nat) (e : Evt) : Bool :=
  (keysOf e.rd).all (fun κ => chkK A i κ E 0) && (updKeys e.ups).all (fun κ => chkK A i κ E 0) && (fsOf e.ups).all (fun d => chkF A i d E 0 && noInB st0 d)
def chkAll (A : List Nat) (st0 : St) (E : List Evt) : List Evt → Nat → Bool
  | [], _ => true
  | e :: l, i => chkOne A st0 E i e && chkAll A st0 E l (i + 1)
def chkBack : List Oper → Nat → Bool
  | [], _ => true
  | o :: l, i => (o.after.toList.all fun e => !binding e || Nat.blt e.on i) && chkBack l (i + 1)
def Look.none : Look := ⟨fun _ => Option.none, fun _ => Option.none, fun _ => Option.none⟩
def aDraw (X : Look) (P : Program) (n : Nat) (ops : Array Oper) (hs : List Hint) (fs : List Fix) (st : St) (ts bs gs : List Nat) : Option (St × List Prop) :=
  match dRun X P n ops.toList ops.toList hs st with
  | some (E, fin, obs) => match chkAll (masks ops.toList []) st E E 0 && chkBack ops.toList 0 with
    | true => match fixes fin fs with
      | some s1 => match s1.keep ts bs gs with
        | some s' => some (s', obs)
        | none => none
      | none => none
    | false => none
  | none => none
theorem chkK_spec {A : List Nat} {i : Nat} {κ : Key} : ∀ {E : List Evt} {k j : Nat} {e : Evt}, chkK A i κ E k = true → E[j]? = some e → hasKey κ e.ups = true → ordd A i (k + j) = true
  | [], k, j, e, h, hj, hk => by simp at hj
  | x :: E, k, 0, e, h, hj, hk => by
    simp at hj; subst hj
    simp only [chkK, Bool.and_eq_true, Bool.or_eq_true, hk] at h
    simpa using h.1
  | x :: E, k, j + 1, e, h, hj, hk => by
    simp only [chkK, Bool.and_eq_true] at h
    have := chkK_spec (j := j) h.2 (by simpa using hj) hk
    rwa [show k + 1 + j = k + (j + 1) by omega] at this
theorem chkF_spec {A : List Nat} {i : Nat} {d : Ref} : ∀ {E : List Evt} {k j : Nat} {e : Evt}, chkF A i d E k = true → E[j]? = some e → intoAny d e.ups = true → i = k + j ∨ (i < k + j ∧ Nat.testBit (A.getD (k + j) 0) i = true)
  | [], k, j, e, h, hj, hk => by simp at hj
  | x :: E, k, 0, e, h, hj, hk => by
    simp at hj; subst hj
    simp only [chkF, Bool.and_eq_true, Bool.or_eq_true, hk] at h
    rcases h.1 with (h1 | h1) | ⟨h1, h2⟩
    · simp at h1
    · exact .inl (beq_true h1)
    · exact .inr ⟨lt_of_blt h1, h2⟩
  | x :: E, k, j + 1, e, h, hj, hk => by
    simp only [chkF, Bool.and_eq_true] at h
    have := chkF_spec (j := j) h.2 (by simpa using hj) hk
    rwa [show k + 1 + j = k + (j + 1) by omega] at this
theorem chkAll_spec {A : List Nat} {st0 : St} {E : List Evt} : ∀ {l : List Evt} {k j : Nat} {e : Evt}, chkAll A st0 E l k = true → l[j]? = some e → chkOne A st0 E (k + j) e = true
  | [], k, j, e, h, hj => by simp at hj
  | x :: l, k, 0, e, h, hj => by
    simp at hj; subst hj
    simp only [chkAll, Bool.and_eq_true] at h
    exact h.1
  | x :: l, k, j + 1, e, h, hj => by
    simp only [chkAll, Bool.and_eq_true] at h
    have := chkAll_spec (j := j) h.2 (by simpa using hj)
    rwa [show k + 1 + j = k + (j + 1) by omega] at this
theorem chkBack_spec : ∀ {l : List Oper} {k j : Nat} {o : Oper}, chkBack l k = true → l[j]? = some o → ∀ e ∈ o.after.toList, binding e = true → e.on < k + j
  | [], k, j, o, h, hj => by simp at hj
  | x :: l, k, 0, o, h, hj => by
    simp at hj; subst hj
    simp only [chkBack, Bool.and_eq_true, List.all_eq_true, Bool.or_eq_true] at h
    intro e he hb
    rcases h.1 e he with h1 | h1
    · simp [hb] at h1
    · exact lt_of_blt h1
  | x :: l, k, j + 1, o, h, hj => by
    simp only [chkBack, Bool.and_eq_true] at h
    have := chkBack_spec (j := j) h.2 (by simpa using hj)
    rwa [show k + 1 + j = k + (j + 1) by omega] at this
theorem mem_keysT {α : Type} {f : Nat → Key} : ∀ {l : List (Nat × α)} {k : Nat} {e : α}, (k, e) ∈ l → f k ∈ keysT f l
  | [], k, e, h => by cases h
  | (j, x) :: l, k, e, h => by
    rcases List.mem_cons.1 h with h | h
    · cases h; simp [keysT]
    · simp [keysT, mem_keysT h]
theorem mem_keysOf {st : St} {κ : Key} {e : Ent} (h : st.look.get κ = some e) : κ ∈ keysOf st := by
  cases κ <;> simp only [Look.get, Option.map_eq_some_iff] at h <;> obtain ⟨x, hx, rfl⟩ := h
  · exact List.mem_append_left _ (mem_keysT (lk_mem hx))
  · exact List.mem_append_right _ (List.mem_append_left _ (mem_keysT (lk_mem hx)))
  · exact List.mem_append_right _ (List.mem_append_right _ (mem_keysT (lk_mem hx)))
theorem mem_updKeys : ∀ {us : List Upd} {κ : Key}, hasKey κ us = true → κ ∈ updKeys us
  | [], κ, h => by cases h
  | u :: us, κ, h => by
    simp only [hasKey, Bool.or_eq_true] at h
    simp only [updKeys]
    cases hu : u.ent with
    | none =>
      rw [hu] at h
      rcases h with h | h
      · cases h
      · exact mem_updKeys h
    | some p =>
      obtain ⟨κ', e⟩ := p
      rw [hu] at h
      rcases h with h | h
      · have := Key.eqb_iff.1 h; subst this; simp
      · simp [mem_updKeys h]
theorem wr_into : ∀ {us : List Upd} {κ : Key} {r : Ref} {e : Ent}, wr us κ = some e → e.refs r = true → intoAny r us = true
  | [], κ, r, e, h, hd => by cases h
  | u :: us, κ, r, e, h, hd => by
    simp only [wr] at h
    split at h
    · rename_i e' h1
      cases h
      have := wr_into h1 hd
      simp [intoAny, this]
    · split at h
      · rename_i κ' e' h2
        split at h
        · cases h
          simp [intoAny, h2, hd]
        · cases h
      · cases h
theorem lastE_into : ∀ {E : List Evt} {k : Nat} {S : Nat → Bool} {κ : Key} {r : Ref} {e : Ent}, lastE (upsOf E) k S κ = some e → e.refs r = true → ∃ j ev, E[j]? = some ev ∧ S (k + j) = true ∧ intoAny r ev.ups = true
  | [], k, S, κ, r, e, h, hd => by cases h
  | x :: E, k, S, κ, r, e, h, hd => by
    simp only [upsOf, lastE] at h
    split at h
    · rename_i e' h1
      cases h
      obtain ⟨j, ev, h2, h3, h4⟩ := lastE_into h1 hd
      exact ⟨j + 1, ev, by simpa using h2, by rwa [show k + (j + 1) = k + 1 + j by omega], h4⟩
    · split at h
      · rename_i hS
        exact ⟨0, x, by simp, hS, wr_into h hd⟩
      · cases h
theorem Inv.drawn {E : Env} {L : Look} {a : Act} {w : World} {G : Gho} (h : Inv E L a w G) : Inv E L a { w with drawn := w.drawn + 1 } G :=
  h.step' (Av.never L) (w' := { w with drawn := w.drawn + 1 }) (G' := G) ⟨rfl, rfl, rfl, Nat.le_refl _, fun _ _ _ => ⟨rfl, rfl, rfl⟩, ⟨fun _ _ _ hc hk => ⟨hc, hk⟩, fun _ _ _ hc hk => ⟨hc, hk⟩⟩, fun b hb => (h.new b hb).2, h.new, fun b p hp => .inl ⟨p, hp⟩, fun _ _ => rfl, fun _ _ => rfl, ⟨fun _ _ => rfl, fun _ _ => rfl⟩⟩
theorem ready_iff {ops : Array Oper} {listed : Array Bool} {i : Nat} : i ∈ Region.ready .any ops listed ↔ i < ops.size ∧ listed.getD i true = false ∧ ∃ o, ops.toList[i]? = some o ∧ ∀ e ∈ o.after.toList, binding e = true → listed.getD e.on false = true := by
  simp only [Region.ready, List.mem_filter, List.mem_range, Bool.and_eq_true, Array.getElem?_toList]
  constructor
  · rintro ⟨h1, h2, h3⟩
    refine ⟨h1, by simpa using h2, ops[i], by simp [h1], ?_⟩
    rw [Array.getElem?_eq_getElem h1] at h3
    simp only [Option.map_some, Option.getD_some, Array.all_eq_true'] at h3
    intro e he hb
    have := h3 e (by simpa using he)
    rw [Bool.or_eq_true] at this
    rcases this with h | h
    · simp only [binding] at hb; rw [hb] at h; simp at h
    · exact h
  · rintro ⟨h1, h2, o, h3, h4⟩
    refine ⟨h1, by simpa using h2, ?_⟩
    rw [h3]
    simp only [Option.map_some, Option.getD_some, Array.all_eq_true']
    intro e he
    rw [Bool.or_eq_true]
    cases hb : Region.binds .any e with
    | false => exact .inl rfl
    | true => exact .inr (h4 e (by simpa using he) hb)
end Go.Bv

namespace Go.Bv
open Go.RowKit
variable {En : Env} {Q : Exit → Act → World → Prop}
theorem getD_lt {l : Array Bool} {i : Nat} (h : i < l.size) (x y : Bool) : l.getD i x = l.getD i y := by
  simp [Array.getD, h]
theorem getD_rep (m i : Nat) : (Array.replicate m false).getD i false = false := by
  simp only [Array.getD_eq_getD_getElem?, Array.getElem?_replicate]
  split <;> rfl
theorem aDraw_any {ops : Array Oper} {hs : List Hint} {st fin : St} {E : List Evt} {obs : List Prop} (hrun : ∀ X, dRun X En.P En.n ops.toList ops.toList hs st = some (E, fin, obs))
    (hchk : chkAll (masks ops.toList []) st E E 0 = true) (hback : chkBack ops.toList 0 = true) (hob : ∀ p ∈ obs, p) (hQ : ∀ a w, SR En fin.look a w → Q .normal a w) :
    ∀ (fuel : Nat) (listed : Array Bool) (a : Act) (w : World), listed.size = ops.size → listed.toList.count false = fuel → DC ops.toList (fun i => listed.getD i false) →
      SR En (LS st.look (upsOf E) (fun i => listed.getD i false)) a w → wpAny En.P .any ops Q fuel listed a w := by
  obtain ⟨hlen, hfin, _⟩ := dRun_spec ops.toList hs st 0 E fin obs (hrun Look.none)
  have hlen' : E.length = ops.size := by simpa using hlen
  -- nothing more to do
  have hdone : ∀ (listed : Array Bool) (a : Act) (w : World), listed.size = ops.size → Region.ready .any ops listed = [] → SR En (LS st.look (upsOf E) (fun i => listed.getD i false)) a w → Q .normal a w := by
    intro listed a w hsz hr hI
    have hall : ∀ i, i < ops.size → listed.getD i false = true := by
      intro i
      induction i using Nat.strongRecOn with
      | _ i ih =>
        intro hi
        cases hc : listed.getD i false with
        | true => rfl
        | false =>
          have ho : ops.toList[i]? = some ops[i] := by simp [hi]
          have : i ∈ Region.ready .any ops listed := by
            refine ready_iff.2 ⟨hi, by rw [getD_lt (by omega) true false]; exact hc, ops[i], ho, ?_⟩
            intro e he hb
            have := chkBack_spec hback ho e he hb
            rw [Nat.zero_add] at this
            exact ih e.on this (by omega)
          rw [hr] at this
          cases this
    have heq : LS st.look (upsOf E) (fun i => listed.getD i false) = fin.look := by
      refine Look.ext_get fun κ => ?_
      rw [LS_get, hfin κ]
      congr 1
      refine lastE_congr fun j us hj _ => ?_
      rw [upsOf_get, Option.map_eq_some_iff] at hj
      obtain ⟨ev, hj, _⟩ := hj
      have : j < E.length := (List.getElem?_eq_some_iff.1 hj).1
      rw [Nat.zero_add]
      exact hall j (by omega)
    rw [heq] at hI
    exact hQ a w hI
  intro fuel
  induction fuel with
  | zero =>
    intro listed a w hsz hcnt hDC hI
    have hr : Region.ready .any ops listed = [] := by
      rw [List.eq_nil_iff_forall_not_mem]
      intro i hi
      obtain ⟨h1, h2, _⟩ := ready_iff.1 hi
      have hlt : i < listed.size := by omega
      have : false ∈ listed.toList := by
        simp only [Array.getD, hlt, dite_true] at h2
        rw [← h2]
        simp
      exact absurd (List.count_pos_iff.2 this) (by omega)
    exact ⟨hr, hdone listed a w hsz hr hI⟩
  | succ fuel ih =>
    intro listed a w hsz hcnt hDC hI
    refine ⟨fun hr => hdone listed a w hsz hr hI, ?_⟩
    intro i hi
    obtain ⟨hilt, h2, o, ho, hready⟩ := ready_iff.1 hi
    have hlt : i < listed.size := by omega
    have hSi : listed.getD i false = false := by rw [getD_lt hlt false true]; exact h2
    obtain ⟨ev, hevi⟩ : ∃ ev, E[i]? = some ev := ⟨E[i], by simp [show i < E.length by omega]⟩
    obtain ⟨_, _, hev⟩ := dRun_spec ops.toList hs st 0 E fin obs (hrun (LS st.look (upsOf E) (fun i => listed.getD i false)))
    obtain ⟨hfok, hread, o', h, ob, ho', hstep, hobs⟩ := hev i ev hevi
    have : o' = o := by rw [ho] at ho'; cases ho'; rfl
    subst this
    have hone := chkAll_spec hchk hevi
    rw [Nat.zero_add] at hone
    simp only [chkOne, Bool.and_eq_true, List.all_eq_true] at hone
    obtain ⟨⟨hc1, hc2⟩, hc3⟩ := hone
    have hgood : ∀ i o, ops.toList[i]? = some o → Good ops.toList (masks ops.toList []) i o := masks_spec ops.toList [] [] rfl rfl (by simp)
    have hanc : ∀ j, Nat.testBit ((masks ops.toList []).getD i 0) j = true → listed.getD j false = true := hgood i o' ho _ hDC hready
    have hdesc : ∀ j, j < ops.size → Nat.testBit ((masks ops.toList []).getD j 0) i = true → listed.getD j false = false := by
      intro j hj hb
      cases hc : listed.getD j false with
      | false => rfl
      | true =>
        have hoj : ops.toList[j]? = some ops[j] := by simp [hj]
        have := hgood j _ hoj _ hDC (fun e he hb => hDC j _ hoj hc e he hb) i hb
        have : listed.getD i false = true := this
        rw [hSi] at this
        cases this
    have hEl : ∀ j ev', E[j]? = some ev' → j < ops.size := fun j ev' hj => by
      have := (List.getElem?_eq_some_iff.1 hj).1; omega
    have hagree : ∀ κ, chkK (masks ops.toList []) i κ E 0 = true → ∀ j ev', E[j]? = some ev' → hasKey κ ev'.ups = true → listed.getD j false = Nat.blt j i := by
      intro κ hk j ev' hj hh
      have := chkK_spec hk hj hh
      rw [Nat.zero_add] at this
      simp only [ordd, Bool.or_eq_true, Bool.and_eq_true] at this
      rcases this with (h1 | ⟨h1, h2⟩) | ⟨h1, h2⟩
      · have := beq_true h1; subst this; rw [hSi, blt_no (Nat.le_refl _)]
      · rw [hanc j h2, h1]
      · rw [hdesc j (hEl j ev' hj) h2, blt_no (Nat.le_of_lt (lt_of_blt h1))]
    have hle : ∀ κ e, ev.rd.look.get κ = some e → (LS st.look (upsOf E) (fun i => listed.getD i false)).get κ = some e := by
      intro κ e he
      have h1 := hread κ e he
      rw [LS_get, ← h1]
      congr 1
      refine lastE_congr fun j us hj hk => ?_
      rw [upsOf_get, Option.map_eq_some_iff] at hj
      obtain ⟨ev', hj, rfl⟩ := hj
      rw [Nat.zero_add, Nat.zero_add]
      exact hagree κ (hc1 κ (mem_keysOf he)) j ev' hj hk
    have hstep' := hstep
    rw [Look.over_eq hle] at hstep'
    have hNo : ∀ d, Upd.f d ∈ ev.ups → NoRef d (LS st.look (upsOf E) (fun i => listed.getD i false)) := by
      intro d hd
      refine NoRef.of_get fun κ e hg => ?_
      obtain ⟨hf1, hf2⟩ := hc3 d (mem_fsOf hd)
      cases hc : e.refs d with
      | false => rfl
      | true =>
        exfalso
        rw [LS_get] at hg
        cases hl : lastE (upsOf E) 0 (fun i => listed.getD i false) κ with
        | none =>
          rw [hl] at hg
          have := (noInB_spec hf2).get (κ := κ) (e := e) (by simpa using hg)
          rw [hc] at this; cases this
        | some x =>
          rw [hl] at hg
          cases hg
          obtain ⟨j, ev', hj, hS, hin⟩ := lastE_into hl hc
          rw [Nat.zero_add] at hS
          rcases chkF_spec hf1 hj hin with h1 | ⟨h1, h2⟩
          · rw [Nat.zero_add] at h1; subst h1; rw [hSi] at hS; cases hS
          · rw [Nat.zero_add] at h1 h2
            rw [hdesc j (hEl j ev' hj) h2] at hS; cases hS
    have hnew : LS st.look (upsOf E) (fun k => (listed.setIfInBounds i true).getD k false) = (LS st.look (upsOf E) (fun i => listed.getD i false)).upds ev.ups := by
      refine Look.ext_get fun κ => ?_
      rw [LS_get, get_upds ev.ups _ hfok hNo κ, LS_get]
      have hi' : (upsOf E)[i]? = some ev.ups := by rw [upsOf_get, hevi]; rfl
      have hgS : ∀ j, j ≠ i → (listed.setIfInBounds i true).getD j false = listed.getD j false := by
        intro j hj
        simp only [Array.getD_eq_getD_getElem?, Array.getElem?_setIfInBounds]
        rw [if_neg (fun e => hj e.symm)]
      have hgi : (listed.setIfInBounds i true).getD i false = true := by
        simp only [Array.getD_eq_getD_getElem?, Array.getElem?_setIfInBounds]
        simp [hlt]
      rw [lastE_add (S := fun i => listed.getD i false) hi' (by rw [Nat.zero_add]; exact hSi) (by rw [Nat.zero_add]; exact hgi) (fun j hj => hgS j (by omega)) ?_]
      · cases wr ev.ups κ <;> rfl
      · intro j vs hj hij hk1 hk2
        rw [upsOf_get, Option.map_eq_some_iff] at hj
        obtain ⟨ev', hj, rfl⟩ := hj
        rw [Nat.zero_add]
        have := hagree κ (hc2 κ (mem_updKeys hk1)) j ev' hj hk2
        rw [this, blt_no (Nat.le_of_lt hij)]
    have ho2 : ops[i]? = some o' := by simpa using ho
    simp only [wpOp, ho2]
    refine aStepL_sound hI hstep' (fun p hp => hob p (hobs p hp)) ?_
    intro a' w' hI'
    rw [← hnew] at hI'
    refine ih (listed.setIfInBounds i true) a' w' (by simp [hsz]) ?_ ?_ hI'
    · rw [Array.toList_setIfInBounds]
      have hlt2 : i < listed.toList.length := by simpa using hlt
      rw [List.count_set hlt2]
      have : listed.toList[i] = false := by
        simp only [Array.getD, hlt, dite_true] at hSi
        simpa using hSi
      simp [this, hcnt]
    · intro j oj hoj hS e he hb
      replace hS : (listed.setIfInBounds i true).getD j false = true := hS
      show (listed.setIfInBounds i true).getD e.on false = true
      have hgS : ∀ j, listed.getD j false = true → (listed.setIfInBounds i true).getD j false = true := by
        intro j hj
        simp only [Array.getD_eq_getD_getElem?, Array.getElem?_setIfInBounds] at hj ⊢
        by_cases hij : i = j
        · subst hij; simp [hlt]
        · rw [if_neg hij]; exact hj
      refine hgS _ ?_
      by_cases hji : j = i
      · subst hji
        rw [ho] at hoj; cases hoj
        exact hready e he hb
      · have : listed.getD j false = true := by
          simp only [Array.getD_eq_getD_getElem?, Array.getElem?_setIfInBounds] at hS ⊢
          rw [if_neg (fun e => hji e.symm)] at hS
          exact hS
        exact hDC j oj hoj this e he hb
theorem Wc.draw (hm : En.P.follows .mixedOrders = true) {st : St} {K : AE → St → Prop} {id : Nat} {ops : Array Oper} (hs : List Hint) (fs : List Fix) (ts bs gs : List Nat) (st' : St) (obs : List Prop)
    (h : aDraw Look.none En.P En.n ops hs fs st ts bs gs = some (st', obs)) (hx : ∀ X, dRun X En.P En.n ops.toList ops.toList hs st = dRun Look.none En.P En.n ops.toList ops.toList hs st) (hob : AllP obs) (hK : K .normal st') : Wc En (.region id ops true) st K := by
  intro a w hI Q hQ
  unfold aDraw at h
  split at h
  · rename_i E fin ob hrun
    split at h
    · rename_i hc
      rw [Bool.and_eq_true] at hc
      split at h
      · rename_i s1 hf
        split at h
        · rename_i s' hk
          cases h
          refine wp_region_any hm ?_
          refine aDraw_any (fun X => (hx X).trans hrun) hc.1 hc.2 hob.mem (fun a' w' hI' => hQ .normal st' a' w' hK ((fixes_sound hI' hf).keep hk)) ops.size _ a _ (by simp) (by simp) ?_ ?_
          · intro i o hi hS
            have hS' : (Array.replicate ops.size false).getD i false = true := hS
            rw [getD_rep] at hS'
            cases hS'
          · have : LS st.look (upsOf E) (fun i => (Array.replicate ops.size false).getD i false) = st.look := by
              refine Look.ext_get fun κ => ?_
              rw [LS_get, lastE_out (fun j _ => ?_)]
              · simp
              · exact getD_rep _ _
            rw [this]
            obtain ⟨G, hI⟩ := hI
            exact ⟨G, hI.drawn⟩
        · cases h
      · cases h
    · cases h
  · cases h
end Go.Bv

namespace Go.Bv
open Go.RowKit
variable {E : Env} {P : Program} {w w' : World} {st : St} {a : Act} {G : Gho}
def frz (d : Nat) (cs : List AV) (e : SV × OwnL) : SV × OwnL :=
  match e.1 with
  | .ptr k off => match Nat.beq k d with
    | true => (.v (.vptr (cs.drop off)), [])
    | false => e
  | _ => e
def mapT (f : SV × OwnL → SV × OwnL) : List (Nat × (SV × OwnL)) → List (Nat × (SV × OwnL))
  | [] => []
  | (k, e) :: l => (k, f e) :: mapT f l
theorem lk_mapT (f : SV × OwnL → SV × OwnL) : ∀ (l : List (Nat × (SV × OwnL))) (k : Nat), lk (mapT f l) k = (lk l k).map f
  | [], k => rfl
  | (j, e) :: l, k => by
    simp only [mapT, lk]
    cases Nat.beq j k with
    | true => rfl
    | false => exact lk_mapT f l k
def St.freeze (s : St) (d : Nat) : Option St :=
  match lk (s.upd (.f (.b d))).b d with
  | some (.cells cs _) => some ⟨mapT (frz d cs) (s.upd (.f (.b d))).t, rmk d (s.upd (.f (.b d))).b, (s.upd (.f (.b d))).g⟩
  | _ => none
theorem SR.freeze {s s' : St} {d : Nat} (hI : SR E s.look a w) (h : s.freeze d = some s') : SR E s'.look a w := by
  obtain ⟨G, hI⟩ := hI
  unfold St.freeze at h
  split at h
  · rename_i cs own0 hb
    cases h
    have i0 := hI.forget (.b d)
    rw [← St.look_upd] at i0
    generalize hs0 : s.upd (.f (.b d)) = s0 at *
    have hbd : s0.look.b d = some (.cells cs own0) := hb
    obtain ⟨hX0, hlab, us, te, hheap, hok⟩ := i0.bo d _ hbd
    have i1 := i0.less (Sub.noB s0.look d)
    let X' : Gh := fun b => match decide (b = G.bx d) with | true => none | false => G.X b
    let G' : Gho := { G with X := X' }
    have hXd : X' (G.bx d) = none := by simp [X']
    have hXn : ∀ b, b ≠ G.bx d → X' b = G.X b := fun b hb => by simp [X', hb]
    have hE : Ext G.X w X' w := by
      refine ⟨fun b o u hc hk => ⟨hc, ?_⟩, fun r es k hr hk => ⟨hr, ?_⟩⟩
      · by_cases e : b = G.bx d
        · subst e; simp [okc, hXd]
        · simpa [okc, hXn b e] using hk
      · by_cases e : r = G.bx d
        · subst e; exact hXd
        · rw [hXn r e]; exact hk
    have hlt : G.bx d < w.heap.size := (Array.getElem?_eq_some_iff.1 hheap).1
    have hS : Stp (fun q => q = .box d) w w G G' := by
      refine ⟨rfl, rfl, rfl, Nat.le_refl _, fun b hb hp => ⟨rfl, hXn b (fun e => by subst e; exact hp _ hlab rfl), rfl⟩, hE, fun b hb => (hI.new b hb).2, fun b hb => ?_, fun b q hq => .inl ⟨q, hq⟩, fun _ _ => rfl, fun _ _ => rfl, ⟨fun _ _ => rfl, fun _ _ => rfl⟩⟩
      have := hI.new b hb
      exact ⟨by show X' b = none; rw [hXn b (by omega)]; exact this.1, this.2⟩
    have i2 := i1.step' Av.box hS
    refine ⟨G', i2.size, i2.dfr, i2.fr, i2.old, i2.new, i2.may, i2.pin, ?_, ?_, i2.gr⟩
    · intro k sv own hk
      have hk' : (lk s0.t k).map (frz d cs) = some (sv, own) := by rw [← lk_mapT]; exact hk
      rw [Option.map_eq_some_iff] at hk'
      obtain ⟨⟨sv0, own1⟩, h1, h2⟩ := hk'
      obtain ⟨hkn, hr, ho⟩ := i2.tm k sv0 own1 h1
      unfold frz at h2
      split at h2
      · rename_i k' off hsv
        simp only at hsv
        subst hsv
        split at h2
        · rename_i hkd
          have := beq_true hkd
          subst this
          cases h2
          refine ⟨hkn, ?_, fun j oe hj => by cases hj⟩
          have hu : a.tmps.getD k undef = .pointer (some ⟨G.bx k', off, none⟩) := hr
          refine ⟨G.bx k', off, hu, ?_⟩
          refine relC_of (X := G.X) hE (cs.drop off) (us.toList.drop off) off (hok.rel.drop off) ?_ ?_
          · intro j u hj
            rw [List.getElem?_drop] at hj
            rw [cell_row hheap]; simpa using hj
          · intro j hj
            show okc X' (G.bx k') (off + j)
            simp [okc, hXd]
        · cases h2; exact ⟨hkn, hr, ho⟩
      · cases h2; exact ⟨hkn, hr, ho⟩
    · intro k x hk
      have hk' : lk (rmk d s0.b) k = some x := hk
      rw [lk_rmk] at hk'
      split at hk'
      · cases hk'
      · rename_i hne
        exact i2.bo k x (by simp only [Look.noB, if_neg hne]; exact hk')
  · cases h
def frzM (d q : Nat) (c : AV) (e : SV × OwnL) : SV × OwnL :=
  match e.1 with
  | .ptr k off => match Nat.beq k d with
    | true => (.v (.vptr ([c].drop off)), [])
    | false => e
  | .mp k => match Nat.beq k q with
    | true => (.v c, [])
    | false => e
  | _ => e
def St.freezeM (s : St) (d : Nat) : Option St :=
  match lk s.b d with
  | some (.ref q) => match lk s.b q with
    | some (.map ks vs) => some ⟨mapT (frzM d q (.mp ks vs)) s.t, rmk d (rmk q s.b), s.g⟩
    | _ => none
  | _ => none
theorem SR.freezeM {s s' : St} {d : Nat} (hI : SR E s.look a w) (h : s.freezeM d = some s') : SR E s'.look a w := by
  obtain ⟨G, hI⟩ := hI
  unfold St.freezeM at h
  split at h
  · rename_i q hb
    split at h
    · rename_i ks vs hq
      cases h
      have hbd : s.look.b d = some (.ref q) := hb
      have hbq : s.look.b q = some (.map ks vs) := hq
      obtain ⟨hX0, hlab, te, hheap⟩ := hI.bo d _ hbd
      obtain ⟨hX1, hlab1, es, ck, hheap1, hk, hv⟩ := hI.bo q _ hbq
      have i1 := (hI.less (Sub.noB s.look d)).less (Sub.noB _ q)
      have hne : G.bx d ≠ G.bx q := by intro e; rw [e] at hheap; rw [hheap] at hheap1; cases hheap1
      have hdq : d ≠ q := by intro e; subst e; exact hne rfl
      let X' : Gh := fun b => match decide (b = G.bx d ∨ b = G.bx q) with | true => none | false => G.X b
      let G' : Gho := { G with X := X' }
      have hXd : X' (G.bx d) = none := by simp [X']
      have hXq : X' (G.bx q) = none := by simp [X']
      have hXn : ∀ b, b ≠ G.bx d → b ≠ G.bx q → X' b = G.X b := fun b hb hc => by simp [X', hb, hc]
      have hE : Ext G.X w X' w := by
        refine ⟨fun b o u hc hk => ⟨hc, ?_⟩, fun r es k hr hk => ⟨hr, ?_⟩⟩
        · by_cases e : b = G.bx d
          · subst e; simp [okc, hXd]
          · by_cases e' : b = G.bx q
            · subst e'; simp [okc, hXq]
            · simpa [okc, hXn b e e'] using hk
        · by_cases e : r = G.bx d
          · subst e; exact hXd
          · by_cases e' : r = G.bx q
            · subst e'; exact hXq
            · rw [hXn r e e']; exact hk
      have hlt : G.bx d < w.heap.size := (Array.getElem?_eq_some_iff.1 hheap).1
      have hlt1 : G.bx q < w.heap.size := (Array.getElem?_eq_some_iff.1 hheap1).1
      have hS : Stp (fun l => l = .box d ∨ l = .box q) w w G G' := by
        refine ⟨rfl, rfl, rfl, Nat.le_refl _, fun b hb hp => ⟨rfl, hXn b (fun e => by subst e; exact hp _ hlab (.inl rfl)) (fun e => by subst e; exact hp _ hlab1 (.inr rfl)), rfl⟩, hE, fun b hb => (hI.new b hb).2, fun b hb => ?_, fun b q hq => .inl ⟨q, hq⟩, fun _ _ => rfl, fun _ _ => rfl, ⟨fun _ _ => rfl, fun _ _ => rfl⟩⟩
        have := hI.new b hb
        exact ⟨by show X' b = none; rw [hXn b (by omega) (by omega)]; exact this.1, this.2⟩
      have av : Av (fun l => l = .box d ∨ l = .box q) ((s.look.noB d).noB q) := by
        have e : (s.look.noB d).noB q = (s.look.noB q).noB d := by
          simp only [Look.noB]
          congr 1
          funext k
          by_cases e : k = d <;> by_cases e' : k = q <;> simp [e, e']
        have := Av.or (D := fun l => l = .box d) (D' := fun l => l = .box q) (L := (s.look.noB d).noB q) (by rw [e]; exact Av.box) Av.box
        exact this
      have i2 := i1.step' av hS
      refine ⟨G', i2.size, i2.dfr, i2.fr, i2.old, i2.new, i2.may, i2.pin, ?_, ?_, i2.gr⟩
      · intro k sv own hk'
        have hk' : (lk s.t k).map (frzM d q (.mp ks vs)) = some (sv, own) := by rw [← lk_mapT]; exact hk'
        rw [Option.map_eq_some_iff] at hk'
        obtain ⟨⟨sv0, own1⟩, h1, h2⟩ := hk'
        obtain ⟨hkn, hr, ho⟩ := i2.tm k sv0 own1 h1
        have hmp : Rel X' w (.mp ks vs) (.map (some (G.bx q))) := ⟨_, es, ck, rfl, hheap1, hXq, RelL.mono hE _ _ hk, RelL.mono hE _ _ hv⟩
        unfold frzM at h2
        split at h2
        · rename_i k' off hsv
          simp only at hsv
          subst hsv
          split at h2
          · rename_i hkd
            have := beq_true hkd
            subst this
            cases h2
            refine ⟨hkn, ?_, fun j oe hj => by cases hj⟩
            have hu : a.tmps.getD k undef = .pointer (some ⟨G.bx k', off, none⟩) := hr
            refine ⟨G.bx k', off, hu, ?_⟩
            cases off with
            | zero =>
              refine ⟨⟨_, by rw [cell_row hheap]; rfl, ?_, hmp⟩, trivial⟩
              show okc X' (G.bx k') 0
              simp [okc, hXd]
            | succ m => rw [show [AV.mp ks vs].drop (m + 1) = [] by simp]; exact trivial
          · cases h2; exact ⟨hkn, hr, ho⟩
        · rename_i k' hsv
          simp only at hsv
          subst hsv
          split at h2
          · rename_i hkd
            have := beq_true hkd
            subst this
            cases h2
            refine ⟨hkn, ?_, fun j oe hj => by cases hj⟩
            have hu : a.tmps.getD k undef = .map (some (G.bx k')) := hr
            show Rel X' w (.mp ks vs) (a.tmps.getD k undef)
            rw [hu]; exact hmp
          · cases h2; exact ⟨hkn, hr, ho⟩
        · cases h2; exact ⟨hkn, hr, ho⟩
      · intro k x hk'
        have hk' : lk (rmk d (rmk q s.b)) k = some x := hk'
        rw [lk_rmk] at hk'
        split at hk'
        · cases hk'
        · rename_i hne1
          rw [lk_rmk] at hk'
          split at hk'
          · cases hk'
          · rename_i hne2
            exact i2.bo k x (by simp only [Look.noB, if_neg hne1, if_neg hne2]; exact hk')
    · cases h
  · cases h
theorem Wc.freezeM {K : AE → St → Prop} {c : Code} (d : Nat) (st' : St) (h : st.freezeM d = some st') (hc : Wc E c st' K) : Wc E c st K :=
  fun a w hI Q hQ => hc a w (hI.freezeM h) Q hQ
theorem Wc.freeze {K : AE → St → Prop} {c : Code} (d : Nat) (st' : St) (h : st.freeze d = some st') (hc : Wc E c st' K) : Wc E c st K :=
  fun a w hI Q hQ => hc a w (hI.freeze h) Q hQ
end Go.Bv

namespace Go.Bv
open Go.RowKit
def cI.i64 (x : Int) : List AV := [.int .i64 x]
def cI.i32 (x : Int) : List AV := [.int .i32 x]
def cI.u8 (x : Int) : List AV := [.int .u8 x]
def cI.u64 (x : Int) : List AV := [.int .u64 x]
def cB (x : Bool) : List AV := [.bool x]
def cS (x : ByteArray) : List AV := [.str x]
def cL {α : Type} (c : α → List AV) (l : List α) : List AV := [.sl (l.map c)]
theorem cI.i64_len (x : Int) : (cI.i64 x).length = 1 := rfl
theorem cI.i64_leaf (x : Int) : (cI.i64 x).all AV.leaf = true := rfl
theorem cI.i32_len (x : Int) : (cI.i32 x).length = 1 := rfl
theorem cI.i32_leaf (x : Int) : (cI.i32 x).all AV.leaf = true := rfl
theorem cI.u8_len (x : Int) : (cI.u8 x).length = 1 := rfl
theorem cI.u8_leaf (x : Int) : (cI.u8 x).all AV.leaf = true := rfl
theorem cI.u64_len (x : Int) : (cI.u64 x).length = 1 := rfl
theorem cI.u64_leaf (x : Int) : (cI.u64 x).all AV.leaf = true := rfl
theorem cB_len (x : Bool) : (cB x).length = 1 := rfl
theorem cB_leaf (x : Bool) : (cB x).all AV.leaf = true := rfl
theorem cS_len (x : ByteArray) : (cS x).length = 1 := rfl
theorem cS_leaf (x : ByteArray) : (cS x).all AV.leaf = true := rfl
theorem cL_len {α : Type} (c : α → List AV) (x : List α) : (cL c x).length = 1 := rfl
theorem cL_leaf {α : Type} (c : α → List AV) (x : List α) : (cL c x).all AV.leaf = true := rfl
def bs (l : List UInt8) : ByteArray := ⟨l.toArray⟩
def wr.i64 (x : Int) : Int := IntKind.wrap .i64 x
def wr.i32 (x : Int) : Int := IntKind.wrap .i32 x
def wr.u8 (x : Int) : Int := IntKind.wrap .u8 x
def wr.u64 (x : Int) : Int := IntKind.wrap .u64 x
def sEq (x y : ByteArray) : Bool := x.toList == y.toList
def sLt (x y : ByteArray) : Bool := Op.bytesLess x.toList y.toList
inductive Out (R S : Type) where
  | ret (r : R)
  | done (s : S)
theorem obind {α β : Type} {x : Option α} {f : α → Option β} {r : β} (h : x.bind f = some r) : ∃ v, x = some v ∧ f v = some r := Option.bind_eq_some_iff.1 h
theorem oif {α : Type} {b : Bool} {x y : Option α} {r : α} (h : (if b = true then x else y) = some r) : (b = true ∧ x = some r) ∨ (b = false ∧ y = some r) := by
  cases b
  · exact .inr ⟨rfl, h⟩
  · exact .inl ⟨rfl, h⟩
theorem oguard {α : Type} {p : Prop} [Decidable p] {x : Option α} {r : α} (h : (if p then x else none) = some r) : p ∧ x = some r := by
  by_cases hp : p
  · rw [if_pos hp] at h; exact ⟨hp, h⟩
  · rw [if_neg hp] at h; cases h
def at' {α : Type} (l : List α) (i : Int) : Option α := if 0 ≤ i then l[i.toNat]? else none
theorem at'_spec {α : Type} {l : List α} {i : Int} {x : α} (h : at' l i = some x) : 0 ≤ i ∧ l[i.toNat]? = some x := oguard h
theorem at_obl {α : Type} {c : α → List AV} {l : List α} {i : Int} {x : α} {e : List AV} {s : Nat} (he : c x = e) (hl : ∀ x, (c x).length = s) (h : at' l i = some x) :
    0 ≤ i ∧ (l.map c)[i.toNat]? = some e ∧ e.length = s := by
  obtain ⟨h1, h2⟩ := at'_spec h
  refine ⟨h1, ?_, ?_⟩
  · rw [List.getElem?_map, h2, ← he]; rfl
  · rw [← he]; exact hl x
theorem len_obl {α : Type} (c : α → List AV) (l : List α) : AV.int .i64 ((l.map c).length : Int) = AV.int .i64 (l.length : Int) := by rw [List.length_map]
def sub3 {α : Type} (l : List α) (lo hi : Int) : List α := (l.take hi.toNat).drop lo.toNat
theorem mem_len {α : Type} {c : α → List AV} {s : Nat} (hl : ∀ x, (c x).length = s) {l : List α} : ∀ r ∈ l.map c, r.length = s := by
  intro r hr
  obtain ⟨x, _, rfl⟩ := List.mem_map.1 hr
  exact hl x
theorem mem_leaf {α : Type} {c : α → List AV} {s : Nat} (hl : ∀ x, (c x).length = s) (hf : ∀ x, (c x).all AV.leaf = true) {l : List α} : ∀ r ∈ l.map c, r.length = s ∧ r.all AV.leaf = true := by
  intro r hr
  obtain ⟨x, _, rfl⟩ := List.mem_map.1 hr
  exact ⟨hl x, hf x⟩
theorem sl_obl0 {α : Type} {c : α → List AV} {l : List α} {lo hi : Int} {s : Nat} (hl : ∀ x, (c x).length = s) (h : 0 ≤ lo ∧ lo ≤ hi ∧ hi ≤ (l.length : Int)) :
    0 ≤ lo ∧ lo ≤ hi ∧ hi ≤ ((l.map c).length : Int) ∧ ∀ r ∈ l.map c, r.length = s := ⟨h.1, h.2.1, by rw [List.length_map]; exact h.2.2, mem_len hl⟩
theorem sl_obl1 {α : Type} {c : α → List AV} {l : List α} {lo : Int} {s : Nat} (hl : ∀ x, (c x).length = s) (h : 0 ≤ lo ∧ lo ≤ (l.length : Int) ∧ (l.length : Int) ≤ (l.length : Int)) :
    0 ≤ lo ∧ lo ≤ ((l.map c).length : Int) ∧ ((l.map c).length : Int) ≤ ((l.map c).length : Int) ∧ ∀ r ∈ l.map c, r.length = s := ⟨h.1, by rw [List.length_map]; exact h.2.1, Int.le_refl _, mem_len hl⟩
theorem sl_re0 {α : Type} (c : α → List AV) (l : List α) (lo hi : Int) : AV.sl (((l.map c).take hi.toNat).drop lo.toNat) = AV.sl ((sub3 l lo hi).map c) := by
  simp [sub3, List.map_take, List.map_drop]
theorem sl_re1 {α : Type} (c : α → List AV) (l : List α) (lo : Int) : AV.sl (((l.map c).take ((l.map c).length : Int).toNat).drop lo.toNat) = AV.sl ((sub3 l lo (l.length : Int)).map c) := by
  have h1 : ((l.map c).length : Int).toNat = (l.map c).length := rfl
  have h2 : ((l.length : Int)).toNat = l.length := rfl
  rw [h1, List.take_length]
  simp only [sub3, h2, List.take_length, List.map_drop]
theorem app0_obl {α : Type} {c : α → List AV} {ys : List α} {s : Nat} (hl : ∀ x, (c x).length = s) (hf : ∀ x, (c x).all AV.leaf = true) (h : ys.length ≤ 1073741824) :
    (ys.map c).length ≤ 1073741824 ∧ ∀ r ∈ ys.map c, r.length = s ∧ r.all AV.leaf = true := ⟨by rw [List.length_map]; exact h, mem_leaf hl hf⟩
theorem app_obl {α : Type} {c : α → List AV} {xs ys : List α} {s : Nat} (hl : ∀ x, (c x).length = s) (hf : ∀ x, (c x).all AV.leaf = true) (h : xs.length + ys.length ≤ 1073741824) :
    (xs.map c).length + (ys.map c).length ≤ 1073741824 ∧ (∀ r ∈ xs.map c, r.length = s) ∧ ∀ r ∈ ys.map c, r.length = s ∧ r.all AV.leaf = true :=
  ⟨by rw [List.length_map, List.length_map]; exact h, mem_len hl, mem_leaf hl hf⟩
theorem app_re {α : Type} (c : α → List AV) (xs ys : List α) : AV.sl (xs.map c ++ ys.map c) = AV.sl ((xs ++ ys).map c) := by rw [List.map_append]
theorem cl_nil {α : Type} (c : α → List AV) : ([] : List (List AV)) = List.map c [] := rfl
theorem cl_cons {α : Type} {c : α → List AV} {x : α} {l : List α} {e : List AV} {es : List (List AV)} (he : c x = e) (h : es = l.map c) : e :: es = (x :: l).map c := by rw [← he, h]; rfl
theorem arr_obl {α : Type} {c : α → List AV} {l : List α} {i : Int} (h : 0 ≤ i ∧ i.toNat < l.length) : 0 ≤ i ∧ i.toNat < (l.map c).length := by rw [List.length_map]; exact h
theorem rep_re {α : Type} {c : α → List AV} {z : α} {e : List AV} (he : c z = e) (n : Nat) : List.replicate n e = (List.replicate n z).map c := by rw [List.map_replicate, he]
theorem setAll_full : ∀ (e c p : List AV), c.length = e.length → setAll (p ++ c) p.length e = p ++ e
  | [], c, p, h => by
    have : c = [] := List.length_eq_zero_iff.1 h
    subst this; rfl
  | x :: e, [], p, h => by cases h
  | x :: e, y :: c, p, h => by
    have h' : c.length = e.length := by simpa using h
    have := setAll_full e c (p ++ [x]) h'
    simp only [setAll]
    rw [show (p ++ y :: c).set p.length x = (p ++ [x]) ++ c by simp, show p.length + 1 = (p ++ [x]).length by simp, this]
    simp
theorem mod_re {α : Type} {c : α → List AV} {x : α} {e : List AV} {s : Nat} (he : c x = e) (hl : ∀ x, (c x).length = s) (l : List α) (i : Nat) :
    (l.map c).modify i (fun r => setAll r 0 e) = (l.set i x).map c := by
  apply List.ext_getElem?
  intro j
  rw [List.getElem?_modify, List.getElem?_map, List.getElem?_map, List.getElem?_set]
  by_cases hij : i = j
  · subst hij
    simp only [if_true]
    by_cases hlt : i < l.length
    · rw [if_pos hlt, List.getElem?_eq_getElem hlt]
      have := setAll_full e (c l[i]) [] (by rw [hl, ← he, hl])
      simp only [List.nil_append, List.length_nil] at this
      show some (setAll (c l[i]) 0 e) = some (c x)
      rw [this, he]
    · rw [if_neg hlt, List.getElem?_eq_none (by omega)]; rfl
  · simp only [if_neg hij]
    cases l[j]? <;> rfl
theorem rc_re {d s : Nat} {x y : List (List AV)} {l m : List (Nat × (Nat × List (List AV)))} (h : x = y) (hs : l = m) : (d, (s, x)) :: l = (d, (s, y)) :: m := by rw [h, hs]
theorem Wc.re {E : Env} {st st' : St} {K : AE → St → Prop} {c : Code} (h : st = st') (hc : Wc E c st' K) : Wc E c st K := h ▸ hc
theorem nil_re {α : Type} (c : α → List AV) : AV.sl [] = AV.sl (List.map c []) := rfl
theorem len_ok (s : Nat) (l : List AV) (h : Nat.ble s l.length = true := by rfl) : s ≤ l.length := Nat.le_of_ble_eq_true h
theorem ms_obl {m : Int} (h : 0 ≤ m ∧ m ≤ 1073741824) : 0 ≤ m ∧ m = m ∧ m ≤ 1073741824 := ⟨h.1, rfl, h.2⟩
theorem onone {α : Type} {x : α} (h : (none : Option α) = some x) : False := by cases h
theorem Wc.keep {E : Env} {st : St} {K : AE → St → Prop} {c : Code} (ts bs gs : List Nat) (st' : St) (h : st.keep ts bs gs = some st') (hc : Wc E c st' K) : Wc E c st K :=
  fun a w hI Q hQ => hc a w (hI.keep h) Q hQ
theorem AllP.nil : AllP [] := trivial
theorem AllP.cons {p : Prop} {ps : List Prop} (h : p) (hs : AllP ps) : AllP (p :: ps) := ⟨h, hs⟩
theorem Wc.lastJ {E : Env} {st : St} {K : AE → St → Prop} {c : Code} (R : St → Prop) (h : Wc E c st (fun e st' => match e with | .normal => R st' | e => K e st')) (hy : ∀ st', R st' → K .normal st') : Wc E c st K :=
  h.mono fun e st' hk => by
    cases e with
    | normal => exact hy st' hk
    | exit id => exact hk
    | ret => exact hk
end Go.Bv

namespace Go.Bv
open Go.RowKit
def X0 : Gh := fun _ => none
def Rd (P : Program) (n : Nat) (t : TypeId) {α : Type} (c : α → List AV) (ok : α → Prop) : Prop :=
  ∀ (H : Type) (enc : TypeId × Value → H) (w : World) (sp : Nat → Bool) (cs : List Value) (x : DataW H × List MemPlace), DataW.trod enc P w 0 sp true n t cs = some x → ∃ v, ok v ∧ RelL X0 w (c v) cs
variable {P : Program} {n : Nat} {t : TypeId}
theorem Rd.zero {α : Type} {c : α → List AV} {ok : α → Prop} : Rd P 0 t c ok := by
  intro H enc w sp cs x h
  simp [DataW.trod] at h
theorem Rd.mono {α : Type} {c : α → List AV} {ok ok' : α → Prop} (h : Rd P n t c ok) (hk : ∀ v, ok v → ok' v) : Rd P n t c ok' := by
  intro H enc w sp cs x hx
  obtain ⟨v, h1, h2⟩ := h H enc w sp cs x hx
  exact ⟨v, hk v h1, h2⟩
def okFb (x : Bool) : Prop := True
def okFs (x : ByteArray) : Prop := x.size ≤ maxLen
def okI (k : IntKind) (x : Int) : Prop := k.min ≤ x ∧ x ≤ k.max
def okL {α : Type} (ok : α → Prop) (l : List α) : Prop := l.length ≤ maxLen ∧ ∀ x ∈ l, ok x
theorem Rd.bool (ht : P.underlying t = some .bool) : Rd P n t cB okFb := by
  intro H enc w sp cs x h
  obtain ⟨b, rfl, _⟩ := DataW.trod_bool ht h
  exact ⟨b, trivial, ⟨_, _, rfl, rfl, rfl⟩⟩
theorem Rd.string (ht : P.underlying t = some .string) : Rd P n t cS okFs := by
  intro H enc w sp cs x h
  obtain ⟨s, rfl, _, hs⟩ := DataW.trod_string ht h
  exact ⟨s, hs, ⟨_, _, rfl, rfl, rfl⟩⟩
theorem Rd.i64 (ht : P.underlying t = some (.int .i64)) : Rd P n t cI.i64 (okI .i64) := by
  intro H enc w sp cs x h
  obtain ⟨m, rfl, _, hs⟩ := DataW.trod_int ht h
  simp only [Lit.wf, Bool.and_eq_true, decide_eq_true_eq] at hs
  exact ⟨m, hs, ⟨_, _, rfl, rfl, rfl⟩⟩
theorem Rd.u8 (ht : P.underlying t = some (.int .u8)) : Rd P n t cI.u8 (okI .u8) := by
  intro H enc w sp cs x h
  obtain ⟨m, rfl, _, hs⟩ := DataW.trod_int ht h
  simp only [Lit.wf, Bool.and_eq_true, decide_eq_true_eq] at hs
  exact ⟨m, hs, ⟨_, _, rfl, rfl, rfl⟩⟩
theorem mapMO_len {α β : Type} {f : α → Option β} : ∀ {l : List α} {r : List β}, l.mapM f = some r → r.length = l.length
  | [], r, h => by simp at h; subst h; rfl
  | x :: l, r, h => by
    simp only [List.mapM_cons, Option.bind_eq_bind, Option.bind_eq_some_iff, Option.pure_def, Option.some.injEq] at h
    obtain ⟨y, _, ys, h2, rfl⟩ := h
    simp [mapMO_len h2]
theorem mapMO_get {α β : Type} {f : α → Option β} : ∀ {l : List α} {r : List β}, l.mapM f = some r → ∀ (i : Nat) (x : α), l[i]? = some x → f x = r[i]?
  | [], r, h, i, x, hx => by simp at hx
  | y :: l, r, h, i, x, hx => by
    simp only [List.mapM_cons, Option.bind_eq_bind, Option.bind_eq_some_iff, Option.pure_def, Option.some.injEq] at h
    obtain ⟨z, h1, ys, h2, rfl⟩ := h
    cases i with
    | zero => simp at hx; subst hx; simpa using h1
    | succ i => simpa using mapMO_get h2 i x (by simpa using hx)
theorem cells?_rel {w : World} {a : Addr} {s : Nat} {cs : List Value} (h : w.cells? 0 a (s + 1) = some cs) : cs.length = s + 1 ∧ a.spot = none ∧ CellsAt w a.block a.off cs := by
  simp only [World.cells?, Nat.zero_le, if_true] at h
  have hl : cs.length = s + 1 := by
    have h2 := mapMO_len h
    simpa using h2
  have hget : ∀ i, i < s + 1 → w.cell? (a.add i) = cs[i]? := by
    intro i hi
    exact mapMO_get h i i (by rw [List.getElem?_range hi])
  have hspot : a.spot = none := by
    have := hget 0 (by omega)
    rw [List.getElem?_eq_getElem (by omega)] at this
    simp only [Addr.add, if_true, World.cell?] at this
    split at this
    · split at this
      · cases this
      · rename_i hs; cases ha : a.spot <;> simp_all
    · cases this
  refine ⟨hl, hspot, ?_⟩
  intro j u hj
  have hlt : j < s + 1 := by have := (List.getElem?_eq_some_iff.1 hj).1; omega
  rw [← hget j hlt] at hj
  have : a.add j = ⟨a.block, a.off + j, none⟩ := by
    unfold Addr.add
    split
    · rename_i e; subst e; cases a; simp_all
    · rfl
  rwa [this] at hj
theorem pick_list {α : Type} {q : Nat → α → Prop} : ∀ (n k : Nat), (∀ i, i < n → ∃ v, q (k + i) v) → ∃ l : List α, l.length = n ∧ ∀ i v, l[i]? = some v → q (k + i) v
  | 0, k, _ => ⟨[], rfl, by simp⟩
  | n + 1, k, h => by
    obtain ⟨v, hv⟩ := h 0 (by omega)
    obtain ⟨l, h1, h2⟩ := pick_list n (k + 1) (fun i hi => by
      have := h (i + 1) (by omega)
      rwa [show k + (i + 1) = k + 1 + i by omega] at this)
    refine ⟨v :: l, by simp [h1], ?_⟩
    intro i u hu
    cases i with
    | zero => simp at hu; subst hu; exact hv
    | succ i =>
      have := h2 i u (by simpa using hu)
      rwa [show k + (i + 1) = k + 1 + i by omega]
theorem relE_mk0 {w : World} {s b : Nat} : ∀ (rows : List (List AV)) (o : Nat), (∀ c ∈ rows, c.length = s) → (∀ i c, rows[i]? = some c → RelC X0 w b (o + i * s) c) → RelE X0 w s b o rows
  | [], o, _, _ => trivial
  | c :: rows, o, hl, h => by
    refine ⟨hl c (by simp), ?_, relE_mk0 rows (o + s) (fun c hc => hl c (by simp [hc])) (fun i c hi => ?_)⟩
    · have := h 0 c (by simp)
      simpa using this
    · have := h (i + 1) c (by simpa using hi)
      rwa [show o + (i + 1) * s = o + s + i * s by rw [Nat.add_mul]; omega] at this
theorem Ext.refl0 {w : World} : Ext X0 w X0 w := Ext.refl _ _
theorem Rd.slice {e : TypeId} {s : Nat} (ht : P.underlying t = some (.slice e)) (hs : P.cellsOf e = s + 1) {α : Type} {c : α → List AV} {ok : α → Prop} (hl : ∀ x, (c x).length = s + 1) (he : ∀ m, m < n → Rd P m e c ok) :
    Rd P n t (cL c) (okL ok) := by
  intro H enc w sp cs x h
  rcases DataW.trod_slice ht h with ⟨rfl, _⟩ | ⟨a, len, cap, elems, rest, m, hm, rfl, rfl, hb, h1, h2, hlen, hel, _, _⟩
  · exact ⟨[], ⟨by simp, by simp⟩, ⟨_, _, rfl, ⟨none, 0, 0, rfl, rfl, Nat.le_refl _, .inl rfl⟩, rfl⟩⟩
  · obtain ⟨l, hll, hq⟩ := pick_list (q := fun i v => ok v ∧ (a.add (i * (s + 1))).spot = none ∧ RelC X0 w (a.add (i * (s + 1))).block (a.add (i * (s + 1))).off (c v)) len 0 (by
      intro i hi
      rw [Nat.zero_add]
      have h3 := hel i hi
      rw [List.getElem?_eq_getElem (by omega), Option.bind_eq_some_iff] at h3
      obtain ⟨cs', h4, h5⟩ := h3
      obtain ⟨v, h6, h7⟩ := he m (by omega) H enc w sp cs' _ h5
      rw [hs] at h4
      obtain ⟨hcl, hsp, hat⟩ := cells?_rel h4
      exact ⟨v, h6, hsp, relC_of Ext.refl0 _ _ _ h7 hat (fun j hj => trivial)⟩)
    refine ⟨l, ⟨by omega, ?_⟩, ⟨_, _, rfl, ⟨some a, len, cap, rfl, by simp [hll], h1, ?_⟩, rfl⟩⟩
    · intro v hv
      obtain ⟨i, hi, rfl⟩ := List.mem_iff_getElem.1 hv
      exact (hq i _ (List.getElem?_eq_getElem hi)).1
    · cases hlz : l with
      | nil => exact .inl rfl
      | cons v0 l' =>
        right
        rw [← hlz]
        have h0 := hq 0 v0 (by rw [hlz]; rfl)
        have hsp : a.spot = none := by
          have := h0.2.1
          simpa [Addr.add] using this
        refine ⟨a.block, a.off, s + 1, by cases a; simp_all, ?_⟩
        refine relE_mk0 _ _ (mem_len hl) ?_
        intro i cc hi
        rw [List.getElem?_map, Option.map_eq_some_iff] at hi
        obtain ⟨v, hv, rfl⟩ := hi
        have := (hq i v hv).2.2
        rw [Nat.zero_add] at this
        have e1 : (a.add (i * (s + 1))).block = a.block := by unfold Addr.add; split <;> rfl
        have e2 : (a.add (i * (s + 1))).off = a.off + i * (s + 1) := by
          unfold Addr.add
          split
          · rename_i e; rw [e]; rfl
          · rfl
        rwa [e1, e2] at this
theorem relL_append {X : Gh} {w : World} : ∀ {as bs : List AV} {us vs : List Value}, RelL X w as us → RelL X w bs vs → RelL X w (as ++ bs) (us ++ vs)
  | [], bs, us, vs, h1, h2 => by
    have : us = [] := h1
    subst this; exact h2
  | a :: as, bs, us, vs, ⟨u, r, e, h1, h1'⟩, h2 => by
    subst e
    exact ⟨u, r ++ vs, rfl, h1, relL_append h1' h2⟩
def tot (P : Program) : List Field → Nat
  | [] => 0
  | f :: fs => P.cellsOf f.type + tot P fs
def RdF (P : Program) (n : Nat) (fs : List Field) (o : Nat) {α : Type} (c : α → List AV) (ok : α → Prop) : Prop :=
  ∀ (H : Type) (enc : TypeId × Value → H) (w : World) (sp : Nat → Bool) (cs : List Value), (∀ f ∈ fs, ∃ x : DataW H × List MemPlace, DataW.trod enc P w 0 sp true n f.type ((cs.drop f.offset).take (P.cellsOf f.type)) = some x) →
    (cs.drop o).length = tot P fs → ∃ v, ok v ∧ RelL X0 w (c v) (cs.drop o)
def cU (_ : Unit) : List AV := []
def okU (_ : Unit) : Prop := True
def cP {α β : Type} (c : α → List AV) (d : β → List AV) (x : α × β) : List AV := c x.1 ++ d x.2
abbrev okP {α β : Type} (ok : α → Prop) (ok' : β → Prop) (x : α × β) : Prop := ok x.1 ∧ ok' x.2
theorem RdF.nil {o : Nat} : RdF P n [] o cU okU := by
  intro H enc w sp cs _ hl
  exact ⟨(), trivial, List.length_eq_zero_iff.1 hl⟩
theorem RdF.cons {f : Field} {fs : List Field} {o s : Nat} {α β : Type} {c : α → List AV} {d : β → List AV} {ok : α → Prop} {ok' : β → Prop} (hoff : f.offset = o) (hs : P.cellsOf f.type = s) (h1 : Rd P n f.type c ok) (h2 : RdF P n fs (o + s) d ok') :
    RdF P n (f :: fs) o (cP c d) (okP ok ok') := by
  intro H enc w sp cs hf hl
  obtain ⟨x, hx⟩ := hf f (by simp)
  obtain ⟨v, hv1, hv2⟩ := h1 H enc w sp _ x hx
  rw [hoff, hs] at hv2
  simp only [tot, hs] at hl
  obtain ⟨u, hu1, hu2⟩ := h2 H enc w sp cs (fun g hg => hf g (by simp [hg])) (by rw [← List.drop_drop, List.length_drop, hl]; omega)
  refine ⟨(v, u), ⟨hv1, hu1⟩, ?_⟩
  have := relL_append hv2 hu2
  rwa [← List.drop_drop, List.take_append_drop] at this
theorem Rd.struct {fs : Array Field} (ht : P.underlying t = some (.struct fs)) {α β : Type} {c : α → List AV} {ok : α → Prop} {d : β → List AV} {okd : β → Prop} (hF : ∀ m, m < n → RdF P m fs.toList 0 d okd) (htot : P.cellsOf t = tot P fs.toList)
    (mk : β → α) (hc : ∀ b, c (mk b) = d b) (hok : ∀ b, okd b → ok (mk b)) : Rd P n t c ok := by
  intro H enc w sp cs x h
  obtain ⟨xs, m, hm, _, hl, hlen, hf⟩ := DataW.trod_struct ht h
  obtain ⟨v, hv1, hv2⟩ := hF m (by omega) H enc w sp cs (fun f hf' => by
    obtain ⟨i, hi, rfl⟩ := List.mem_iff_getElem.1 hf'
    have hi' : i < fs.size := by simpa using hi
    have := hf i fs[i] (by simp [hi'])
    rw [List.getElem?_eq_getElem (by omega)] at this
    exact ⟨_, by simpa using this⟩) (by rw [List.drop_zero, hl, htot])
  exact ⟨mk v, hok v hv1, by rw [hc]; simpa using hv2⟩
theorem Rd.scalar {α : Type} {a : α → AV} {ok : α → Prop} (h : ∀ n, Rd P n t (fun x => [a x]) ok) {H : Type} {enc : TypeId × Value → H} {w : World} {sp : Nat → Bool} {v : Value} {d : DataW H} {ps : List MemPlace} {base : Nat}
    (ht : ∀ cs, P.underlying t = some (.struct cs) → False) (ht2 : ∀ l cs, P.underlying t = some (.array l cs) → False) (hv : Value.okWide P w .any base t v) (hd : DataW.Trod enc P w 0 sp true t v d ps) : ∃ x, ok x ∧ Rel X0 w (a x) v := by
  obtain ⟨fuel, hd⟩ := hd
  obtain ⟨x, h1, u, r, e, h2, h3⟩ := h fuel H enc w sp _ _ hd
  have : r = [] := h3
  subst this
  refine ⟨x, h1, ?_⟩
  cases v with
  | agg cs =>
    exfalso
    unfold Value.okWide at hv
    split at hv
    · rename_i fs hh; exact ht _ hh
    · rename_i l fs hh; exact ht2 _ _ hh
    · unfold Cell.okWide at hv
      split at hv
      all_goals first | (rename_i hh; cases hh; done) | skip
      all_goals (unfold Cell.ok at hv; split at hv <;> first | exact hv | simp_all)
  | _ =>
    simp only [Value.cells] at e
    simp at e
    subst e
    exact h2
theorem Rd.agg {α : Type} {c : α → List AV} {ok : α → Prop} (h : ∀ n, Rd P n t c ok) {H : Type} {enc : TypeId × Value → H} {w : World} {sp : Nat → Bool} {v : Value} {d : DataW H} {ps : List MemPlace} {base : Nat} {fs : Array Field}
    (ht : P.underlying t = some (.struct fs)) (hv : Value.okWide P w .any base t v) (hd : DataW.Trod enc P w 0 sp true t v d ps) : ∃ x, ok x ∧ Rel X0 w (.agg (c x)) v := by
  obtain ⟨fuel, hd⟩ := hd
  simp only [Value.okWide, ht] at hv
  obtain ⟨cs, rfl, _⟩ := hv
  obtain ⟨x, h1, h2⟩ := h fuel H enc w sp _ _ hd
  exact ⟨x, h1, ⟨cs.toList, by simp, h2⟩⟩
end Go.Bv

namespace Go.Bv
open Go.RowKit Go.ChangeShapes Go.WideShapes
theorem trodAll_stays {H : Type} {enc : TypeId × Value → H} {P : Program} (hl : laidOutB P = true) {W W' : World} {sp : Nat → Bool} (hb : Below W.heap.size W W') :
    ∀ {ts : List TypeId} {vs : List Value} {ds : List (DataW H)} {ps : List MemPlace}, (∀ t ∈ ts, P.readableRec t = true ∧ t < P.types.size) → DataW.TrodAll enc P W 0 (fun _ => true) true ts vs ds ps →
      (∀ p ∈ ps, p.block < W.heap.size) → (∀ p ∈ ps, sp p.block = true) → DataW.TrodAll enc P W' 0 sp true ts vs ds ps
  | [], vs, ds, ps, _, h, _, _ => by
    obtain ⟨rfl, rfl, rfl⟩ := trodAll_nil h
    rfl
  | t :: ts, vs, ds, ps, hr, h, hlt, hs => by
    obtain ⟨v, vs', d, ds', p, q, rfl, rfl, rfl, h1, h2⟩ := trodAll_cons h
    refine ⟨p, q, ?_, trodAll_stays hl hb (fun t ht => hr t (by simp [ht])) h2 (fun x hx => hlt x (by simp [hx])) (fun x hx => hs x (by simp [hx])), rfl⟩
    exact WideElems.Trod_stays hl (hr t (by simp)).1 (hr t (by simp)).2 h1 (fun x hx => hb.same (hlt x (by simp [hx]))) (fun x hx => hs x (by simp [hx]))
theorem post_true {H : Type} {enc : TypeId × Value → H} {P : Program} {fn : Func} {s : ChangeSpec} {W W' : World} {args : Array Value} {ds gs : List (DataW H)} {before : List MemPlace} {tb : TypeId}
    (hl : laidOutB P = true) (hr : ∀ t ∈ fn.params.toList, P.readableRec t = true ∧ t < P.types.size) (hres : fn.resultTypes = #[tb]) (hb : P.underlying tb = some .bool) (hvars : s.vars = [])
    (hspec : ∀ ds : List (DataW H), ds.length = fn.params.size → s.fn H ds = { results := [.lit (.bool true)], args := ds })
    (hW : DataW.Whole enc P fn.params.toList s.vars false W args.toList ds gs before) (hbel : Below W.heap.size W W') :
    s.post enc P fn false true false false W args (.bool true) W' := by
  have hW' := hW
  obtain ⟨p, q, hA, hV, rfl, hfz, hnd⟩ := hW
  rw [hvars] at hV
  obtain ⟨rfl, rfl⟩ := trodVars_none hV
  have hlen : ds.length = fn.params.size := by
    have : ∀ {ts : List TypeId} {vs : List Value} {ds : List (DataW H)} {ps : List MemPlace}, DataW.TrodAll enc P W 0 (fun _ => true) true ts vs ds ps → ds.length = ts.length := by
      intro ts
      induction ts with
      | nil => intro vs ds ps h; obtain ⟨_, rfl, _⟩ := trodAll_nil h; rfl
      | cons t ts ih => intro vs ds ps h; obtain ⟨v, vs', d, ds', p, q, rfl, rfl, rfl, h1, h2⟩ := trodAll_cons h; simp [ih h2]
    simpa using this hA
  have hfn : s.fn H (ds ++ []) = { results := [.lit (.bool true)], args := ds } := by rw [List.append_nil]; exact hspec ds hlen
  have hlt : ∀ x ∈ p, x.block < W.heap.size := fun x hx => by have := hW'.lt x (by simp [hx]); simpa using this
  have hargs : ∀ sp : Nat → Bool, (∀ x ∈ p, sp x.block = true) → DataW.TrodAll enc P W' 0 sp true fn.params.toList args.toList (s.fn H (ds ++ [])).args p := by
    intro sp hsp
    rw [hfn]
    exact trodAll_stays hl hbel hr hA hlt hsp
  have hvs : ∀ sp : Nat → Bool, DataW.TrodVars enc P W' sp s.vars (s.fn H (ds ++ [])).vars [] := by
    intro sp
    rw [hfn, hvars]; rfl
  have hrs : ∀ (b : Nat) (sp : Nat → Bool) (hd : Bool), DataW.TrodAll enc P W' b sp hd fn.resultTypes.toList ((Value.bool true).resultList fn.resultTypes.size) (s.fn H (ds ++ [])).results [] := by
    intro b sp hd
    rw [hfn, hres]
    exact trodAll_mk1 (shut_bool hb true)
  refine ⟨ds, [], p ++ [], [], p, [], hW', hrs _ _ _, hargs _ (fun x hx => by simpa using hlt x hx), hvs _, World.keptBut_mono (fun x hx => ⟨hx, ?_⟩) (hbel.frame (· ∈ p ++ [])), fun _ => ?_⟩
  · rw [List.append_nil] at hx; exact Or.inr (Or.inl hx)
  · refine ⟨ok_one hres rfl (okWide_bool_mk hb true), _, _, ([] ++ p) ++ [], ⟨[] ++ p, [], trodAll_append (hargs _ (fun _ _ => rfl)) (hrs _ _ _), hvs _, rfl, ?_, ?_⟩, ?_⟩
    · intro b off hp
      have hp' : MemPlace.cell b off ∈ p ++ [] := by simpa using hp
      have hb' : b < W.heap.size := hlt (.cell b off) (by simpa using hp)
      rw [hbel.frozen (p := ⟨b, off, none⟩) hb']
      exact hfz b off hp'
    · intro ha; cases ha
    · intro x hx _
      simpa using hx
end Go.Bv

namespace Go.Bv
open Go.RowKit
theorem wr_i64 {x : Int} (h1 : -9223372036854775808 ≤ x) (h2 : x ≤ 9223372036854775807) : wr.i64 x = x := by
  unfold wr.i64 IntKind.wrap
  simp [IntKind.signed, IntKind.bits]
  omega
theorem at_nat {α : Type} (l : List α) (n : Nat) : at' l (n : Int) = l[n]? := by
  unfold at'
  rw [if_pos (by omega)]
  simp
theorem at_lt {α : Type} {l : List α} {n : Nat} (h : n < l.length) : at' l (n : Int) = some l[n] := by
  rw [at_nat, List.getElem?_eq_getElem h]
theorem maxLen_eq : maxLen = 9223372036854775807 := by decide
theorem wr_succ {n m : Nat} (h : n < m) (hm : m ≤ maxLen) : wr.i64 ((n : Int) + 1) = ((n + 1 : Nat) : Int) := by
  rw [maxLen_eq] at hm
  rw [wr_i64 (by omega) (by omega)]
  omega
theorem sEq_iff {x y : ByteArray} : sEq x y = true ↔ x = y := by
  unfold sEq
  rw [beq_iff_eq]
  constructor
  · intro h
    have h1 : x.data.toList = y.data.toList := by
      have e : ∀ z : ByteArray, z.toList = z.data.toList := fun z => by rw [ByteArray.toList_eq]
      rw [e, e] at h; exact h
    cases x; cases y
    congr 1
    exact Array.toList_inj.1 h1
  · rintro rfl; rfl
theorem sEq_refl (x : ByteArray) : sEq x x = true := sEq_iff.2 rfl
theorem ofNat_lt {a b : Nat} : ((a : Int) < (b : Int)) ↔ a < b := by omega
def Small : Int := 1048576
theorem sz_loop {α : Type} {l : List α} {f : α → Int → Option Int} {L : Nat → Int → Int → Option (Out Int Int)} {sm : α → Prop} (hl : l.length ≤ maxLen)
    (hf : ∀ x ∈ l, ∀ b, 0 ≤ b → b ≤ Small → ∃ r, f x b = some r ∧ -1 ≤ r ∧ r ≤ b ∧ (0 ≤ r → sm x))
    (hs : ∀ m b i, L (m + 1) b i = if (decide (i < (l.length : Int))) = true then (at' l i).bind fun x => (f x b).bind fun r => if (decide (r < 0)) = true then some (.ret (-1)) else L m r (wr.i64 (i + 1)) else some (.done b)) :
    ∀ (m n : Nat) (b : Int), n ≤ l.length → l.length - n < m → 0 ≤ b → b ≤ Small → ∃ o, L m b (n : Int) = some o ∧ (match o with | .ret r => r = -1 | .done b' => 0 ≤ b' ∧ b' ≤ b ∧ ∀ x ∈ l.drop n, sm x)
  | 0, n, b, h1, h2, h3, h4 => by omega
  | m + 1, n, b, h1, h2, h3, h4 => by
    rw [hs]
    by_cases hlt : n < l.length
    · rw [if_pos (by simpa using hlt), at_lt hlt]
      simp only [Option.bind_some]
      obtain ⟨r, hr, hr1, hr2, hr3⟩ := hf l[n] (List.getElem_mem hlt) b h3 h4
      rw [hr]
      simp only [Option.bind_some]
      split
      · exact ⟨_, rfl, rfl⟩
      · rename_i h
        simp at h
        rw [wr_succ hlt hl]
        obtain ⟨o, h5, h6⟩ := sz_loop hl hf hs m (n + 1) r (by omega) (by omega) h (Int.le_trans hr2 h4)
        refine ⟨o, h5, ?_⟩
        cases o with
        | ret r => exact h6
        | done b' =>
          refine ⟨h6.1, Int.le_trans h6.2.1 hr2, ?_⟩
          rw [List.drop_eq_getElem_cons hlt]
          intro x hx
          rcases List.mem_cons.1 hx with rfl | hx
          · exact hr3 h
          · exact h6.2.2 x hx
    · rw [if_neg (by simpa using hlt)]
      exact ⟨_, rfl, h3, Int.le_refl _, by rw [List.drop_of_length_le (by omega)]; simp⟩
theorem sz_list {α : Type} {l : List α} {f : α → Int → Option Int} {L : Nat → Int → Int → Option (Out Int Int)} {sm : α → Prop} (hl : l.length ≤ maxLen)
    (hf : ∀ x ∈ l, ∀ b, 0 ≤ b → b ≤ Small → ∃ r, f x b = some r ∧ -1 ≤ r ∧ r ≤ b ∧ (0 ≤ r → sm x))
    (hs : ∀ m b i, L (m + 1) b i = if (decide (i < (l.length : Int))) = true then (at' l i).bind fun x => (f x b).bind fun r => if (decide (r < 0)) = true then some (.ret (-1)) else L m r (wr.i64 (i + 1)) else some (.done b))
    {k : Nat} (hk : maxLen < k) (b : Int) (h0 : 0 ≤ b) (h1 : b ≤ Small) : ∃ r, (if (decide ((wr.i64 (b - (l.length : Int))) < 0)) = true then some (-1) else
      (L k (wr.i64 (b - (l.length : Int))) 0).bind fun out => match out with | .ret r => some r | .done b => some b) = some r ∧ -1 ≤ r ∧ r ≤ b ∧ (0 ≤ r → l.length ≤ 1048576 ∧ ∀ x ∈ l, sm x) := by
  have hm := hl
  rw [maxLen_eq] at hm
  unfold Small at h1
  rw [wr_i64 (by omega) (by omega)]
  split
  · exact ⟨_, rfl, by omega, by omega, by omega⟩
  · rename_i h
    simp at h
    obtain ⟨o, h3, h4⟩ := sz_loop hl hf hs k 0 (b - (l.length : Int)) (by omega) (by omega) (by omega) (by unfold Small; omega)
    rw [show ((0 : Nat) : Int) = 0 from rfl] at h3
    rw [h3]
    cases o with
    | ret r => exact ⟨r, rfl, by omega, by omega, by omega⟩
    | done b' => exact ⟨b', rfl, by omega, by omega, fun _ => ⟨by omega, by simpa using h4.2.2⟩⟩
theorem to_loop {α : Type} {l : List α} {f : α → Option α} {L : Nat → Int → List α → Option (Out (List α) (List α))} (hl : l.length ≤ maxLen) (hf : ∀ x ∈ l, f x = some x)
    (hs : ∀ m i o, L (m + 1) i o = if (decide (i < (l.length : Int))) = true then (at' l i).bind fun x => (f x).bind fun y => if 0 ≤ i ∧ (i).toNat < o.length then L m (wr.i64 (i + 1)) (o.set ((i).toNat) y) else none else some (.done o)) :
    ∀ (m n : Nat) (o : List α), n ≤ l.length → l.length - n < m → o.length = l.length → o.take n = l.take n → L m (n : Int) o = some (.done l)
  | 0, n, o, h1, h2, h3, h4 => by omega
  | m + 1, n, o, h1, h2, h3, h4 => by
    rw [hs]
    by_cases hlt : n < l.length
    · rw [if_pos (by simpa using hlt), at_lt hlt]
      simp only [Option.bind_some, hf _ (List.getElem_mem hlt)]
      rw [if_pos ⟨by omega, by simpa [h3] using hlt⟩, wr_succ hlt hl]
      refine to_loop hl hf hs m (n + 1) _ (by omega) (by omega) (by simp [h3]) ?_
      simp only [Int.toNat_natCast]
      apply List.ext_getElem?
      intro j
      rw [List.getElem?_take, List.getElem?_take]
      by_cases hj : j < n + 1
      · rw [if_pos hj, if_pos hj, List.getElem?_set]
        by_cases hjn : n = j
        · subst hjn
          rw [if_pos rfl, if_pos (by omega), List.getElem?_eq_getElem hlt]
        · rw [if_neg hjn]
          have := congrArg (fun q => q[j]?) h4
          simpa [List.getElem?_take, show j < n by omega] using this
      · rw [if_neg hj, if_neg hj]
    · rw [if_neg (by simpa using hlt)]
      have hn : n = l.length := by omega
      subst hn
      rw [List.take_length, ← h3, List.take_length] at h4
      rw [h4]
theorem to_list {α : Type} {l : List α} {f : α → Option α} {L : Nat → Int → List α → Option (Out (List α) (List α))} (hl : l.length ≤ 1048576) (hf : ∀ x ∈ l, f x = some x)
    (hs : ∀ m i o, L (m + 1) i o = if (decide (i < (l.length : Int))) = true then (at' l i).bind fun x => (f x).bind fun y => if 0 ≤ i ∧ (i).toNat < o.length then L m (wr.i64 (i + 1)) (o.set ((i).toNat) y) else none else some (.done o))
    {k : Nat} (hk : maxLen < k) (z : α) : (0 ≤ (l.length : Int) ∧ (l.length : Int) ≤ 1073741824) ∧ L k 0 (List.replicate ((l.length : Int)).toNat z) = some (.done l) := by
  have hm : l.length ≤ maxLen := by rw [maxLen_eq]; omega
  refine ⟨⟨by omega, by omega⟩, ?_⟩
  have := to_loop hm hf hs k 0 (List.replicate ((l.length : Int)).toNat z) (by omega) (by omega) (by simp) (by simp)
  rwa [show ((0 : Nat) : Int) = 0 from rfl] at this
theorem eq_loop {α : Type} {l : List α} {f : α → α → Option Bool} {L : Nat → Int → Option (Out Bool Unit)} (hl : l.length ≤ maxLen) (hf : ∀ x ∈ l, f x x = some true)
    (hs : ∀ m i, L (m + 1) i = if (decide (i < (l.length : Int))) = true then (at' l i).bind fun x => (at' l i).bind fun y => (f x y).bind fun b => if (!b) = true then some (.ret false) else L m (wr.i64 (i + 1)) else some (.done ())) :
    ∀ (m n : Nat), n ≤ l.length → l.length - n < m → L m (n : Int) = some (.done ())
  | 0, n, h1, h2 => by omega
  | m + 1, n, h1, h2 => by
    rw [hs]
    by_cases hlt : n < l.length
    · rw [if_pos (by simpa using hlt), at_lt hlt]
      simp only [Option.bind_some, hf _ (List.getElem_mem hlt)]
      rw [if_neg (by simp), wr_succ hlt hl]
      exact eq_loop hl hf hs m (n + 1) (by omega) (by omega)
    · rw [if_neg (by simpa using hlt)]
theorem eq_list {α : Type} {l : List α} {f : α → α → Option Bool} {L : Nat → Int → Option (Out Bool Unit)} (hl : l.length ≤ maxLen) (hf : ∀ x ∈ l, f x x = some true)
    (hs : ∀ m i, L (m + 1) i = if (decide (i < (l.length : Int))) = true then (at' l i).bind fun x => (at' l i).bind fun y => (f x y).bind fun b => if (!b) = true then some (.ret false) else L m (wr.i64 (i + 1)) else some (.done ()))
    {k : Nat} (hk : maxLen < k) : (¬ ((l.length : Int) != (l.length : Int)) = true) ∧ L k 0 = some (.done ()) := by
  have := eq_loop hl hf hs k 0 (by omega) (by omega)
  rw [show ((0 : Nat) : Int) = 0 from rfl] at this
  exact ⟨by simp, this⟩
theorem to_list0 {α : Type} {l : List α} {L : Nat → Int → List α → Option (Out (List α) (List α))} (hl : l.length ≤ 1048576)
    (hs : ∀ m i o, L (m + 1) i o = if (decide (i < (l.length : Int))) = true then (at' l i).bind fun x => if 0 ≤ i ∧ (i).toNat < o.length then L m (wr.i64 (i + 1)) (o.set ((i).toNat) x) else none else some (.done o))
    {k : Nat} (hk : maxLen < k) (z : α) : (0 ≤ (l.length : Int) ∧ (l.length : Int) ≤ 1073741824) ∧ L k 0 (List.replicate ((l.length : Int)).toNat z) = some (.done l) :=
  to_list (f := some) hl (fun x _ => rfl) (fun m i o => by rw [hs]; simp only [Option.bind_some]) hk z
theorem eq_list0 {α : Type} {l : List α} {ne : α → α → Bool} {L : Nat → Int → Option (Out Bool Unit)} (hl : l.length ≤ maxLen) (hf : ∀ x, ne x x = false)
    (hs : ∀ m i, L (m + 1) i = if (decide (i < (l.length : Int))) = true then (at' l i).bind fun x => (at' l i).bind fun y => if (ne x y) = true then some (.ret false) else L m (wr.i64 (i + 1)) else some (.done ()))
    {k : Nat} (hk : maxLen < k) : (¬ ((l.length : Int) != (l.length : Int)) = true) ∧ L k 0 = some (.done ()) :=
  eq_list (f := fun x y => some (!ne x y)) hl (fun x _ => by simp [hf]) (fun m i => by rw [hs]; simp only [Option.bind_some, Bool.not_not]) hk
end Go.Bv

/- FnExactRulesOk: the program answers as the reference does, for every input. -/
import Derived.Test.YtjgagbajgdmocaaRows
import Derived.Test.YtjgagbajgdmocaaLaw
set_option linter.unusedVariables false
set_option linter.unusedSimpArgs false
namespace Go.Proofs.Ytjgagbajgdmocaa
open Go.ChangeShapes Go.WideShapes Go.ChangeAt Go.RowKit Go.Bv
namespace FnExactRulesOk
theorem rd135 (n : Nat) : Rd Try.prog n 135 GPart.c GPart.ok := Rd.struct Try.underlying135 (β := Bool × ByteArray × Unit) (d := (cP cB (cP cS cU))) (okd := (okP okFb (okP okFs okU))) (fun m _ => (RdF.cons (o := 0) (s := 1) rfl (by kernel_rfl) (Rd.bool Try.underlying4) (RdF.cons (o := 1) (s := 1) rfl (by kernel_rfl) (Rd.string Try.underlying9) RdF.nil))) (by kernel_rfl) (fun b => GPart.mk b.1 b.2.1) (fun b => rfl) (fun b h => ⟨h.1, h.2.1⟩)
theorem rd34 (n : Nat) : Rd Try.prog n 34 (cL GPart.c) (okL GPart.ok) := Rd.slice Try.underlying34 (by kernel_rfl) GPart.c_len (fun m _ => (rd135 _))
theorem rd36 (n : Nat) : Rd Try.prog n 36 GRule.c GRule.ok := Rd.struct Try.underlying36 (β := ByteArray × (List GPart) × Unit) (d := (cP cS (cP (cL GPart.c) cU))) (okd := (okP okFs (okP (okL GPart.ok) okU))) (fun m _ => (RdF.cons (o := 0) (s := 1) rfl (by kernel_rfl) (Rd.string Try.underlying9) (RdF.cons (o := 1) (s := 1) rfl (by kernel_rfl) (rd34 _) RdF.nil))) (by kernel_rfl) (fun b => GRule.mk b.1 b.2.1) (fun b => rfl) (fun b h => ⟨h.1, h.2.1⟩)
theorem rd73 (n : Nat) : Rd Try.prog n 73 (cL GRule.c) (okL GRule.ok) := Rd.slice Try.underlying73 (by kernel_rfl) GRule.c_len (fun m _ => (rd36 _))
theorem own : ownKnob Try.prog.godebug = none := by kernel_rfl
theorem laidOut : laidOutB Try.prog = true := by kernel_rfl
set_option maxRecDepth 100000 in
theorem lifted (os : Os) (started : os.Started) (H : Type) (enc : TypeId × Value → H) :
    ReturnsInHanded {} Try.checked os 6 .any (Rows.fnExactRulesOkSpec.pre6 enc Try.prog Try.f6 Rows.fnExactRulesOkRow.domain false) (Rows.fnExactRulesOkSpec.post enc Try.prog Try.f6 false true false false) := by
  refine returnsInHanded_of_change (C := Try.checked) own started (by kernel_rfl) Try.func6
    (ChangeSpec.witness6 (enc := enc) (C := Try.checked) false ⟨#[], #[.slice none 0 0], []⟩ 8 (by kernel_rfl) (by kernel_rfl) (by kernel_rfl) (by kernel_rfl)) ?_
  intro W base args ds gs before hval0 hW hcnd _
  have hval : ∀ (j : Nat) t v, Try.f6.params[j]? = some t → args[j]? = some v → Value.okWide Try.prog W .any base t v := hval0
  have hW' := hW
  obtain ⟨p, q, hA0, hV, rfl, hfz, hnd⟩ := hW
  have hA : DataW.TrodAll enc Try.prog W 0 (fun _ => true) true Try.f6.params.toList args.toList ds p := hA0
  rw [Try.params6] at hA hval
  clear hA0 hval0
  obtain ⟨v0, vs0, d0, ds0, p0, q0, e0, rfl, rfl, h0, t0⟩ := trodAll_cons hA
  obtain ⟨rfl, rfl, rfl⟩ := trodAll_nil t0
  obtain rfl : args = #[v0] := by cases args; simp_all
  obtain ⟨x0, k0, r0⟩ := Rd.scalar (a := fun x : List GRule => .sl (List.map GRule.c x)) (ok := okL GRule.ok) (fun n => (rd73 n)) (fun cs hh => by rw [Try.underlying73] at hh; cases hh) (fun l cs hh => by rw [Try.underlying73] at hh; cases hh) (hval 0 73 v0 rfl rfl) h0
  obtain ⟨k, hk⟩ := law x0 k0
  have hc := claws_FnExactRulesOk hk X0 W [v0] (fun _ => none) ⟨v0, _, rfl, ⟨r0, fun _ _ h => by cases h⟩, rfl⟩ (fun b _ => ⟨rfl, rfl⟩)
  refine hc.mono fun e W' ⟨u, X', lab', he, hfr, _, _, hrel, _⟩ => ?_
  subst he
  have hb : Below W.heap.size W W' := hfr.below
  have hu : u = .bool true := hrel.1
  subst hu
  refine ⟨_, rfl, post_true (tb := 4) laidOut ?_ rfl Try.underlying4 rfl ?_ hW' hb⟩
  · rw [Try.params6]
    intro t ht
    have hb : [73].all (fun t => Try.prog.readableRec t && Nat.blt t Try.prog.types.size) = true := by kernel_rfl
    have := List.all_eq_true.1 hb t ht
    rw [Bool.and_eq_true] at this
    exact ⟨this.1, lt_of_blt this.2⟩
  · intro ds h
    match ds, h with
    | [d0], _ => rfl
/-- What is claimed. -/
theorem holds : Rows.FnExactRulesOkSaid :=
  OpenClaim.holds_of_wide 6 Try.f6 rfl rfl rfl rfl rfl rfl rfl ⟨rfl, rfl, rfl, rfl, rfl⟩ rfl rfl rfl rfl rfl (by kernel_rfl) Try.func6 (by kernel_rfl)
    (of_decide_eq_true (by kernel_rfl)) (by unfold Func.isWrapper; first | (rw [if_pos (by decide +kernel)]; kernel_rfl) | (rw [if_neg (by decide +kernel)]; exact ⟨rfl, rfl⟩))
    (fun os started H enc _ => lifted os started H enc)
end FnExactRulesOk
/-- The program and the reference answer alike, for every input. -/
theorem fnExactRulesOk_holds : Rows.FnExactRulesOkSaid := FnExactRulesOk.holds
end Go.Proofs.Ytjgagbajgdmocaa

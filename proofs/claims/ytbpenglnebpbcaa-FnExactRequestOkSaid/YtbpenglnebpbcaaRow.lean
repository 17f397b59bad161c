/- FnExactRequestOk: the program answers as the reference does, for every input. -/
import Derived.Test.YtbpenglnebpbcaaRows
import Derived.Test.YtbpenglnebpbcaaLaw
set_option linter.unusedVariables false
set_option linter.unusedSimpArgs false
namespace Go.Proofs.Ytbpenglnebpbcaa
open Go.ChangeShapes Go.WideShapes Go.ChangeAt Go.RowKit Go.Av
namespace FnExactRequestOk
theorem rd23 (n : Nat) : Rd Try.prog n 23 GRequest.c GRequest.ok := Rd.struct Try.underlying23 (β := Int × ByteArray × ByteArray × Unit) (d := (cP cI.i64 (cP cS (cP cS cU)))) (okd := (okP (okI .i64) (okP okS (okP okS okU)))) (fun m _ => (RdF.cons (o := 0) (s := 1) rfl (by kernel_rfl) (Rd.i64 Try.underlying3) (RdF.cons (o := 1) (s := 1) rfl (by kernel_rfl) (Rd.string Try.underlying9) (RdF.cons (o := 2) (s := 1) rfl (by kernel_rfl) (Rd.string Try.underlying9) RdF.nil)))) (by kernel_rfl) (fun b => GRequest.mk b.1 b.2.1 b.2.2.1) (fun b => rfl) (fun b h => ⟨h.1, h.2.1, h.2.2.1⟩)
theorem own : ownKnob Try.prog.godebug = none := by kernel_rfl
theorem laidOut : laidOutB Try.prog = true := by kernel_rfl
set_option maxRecDepth 100000 in
theorem lifted (os : Os) (started : os.Started) (H : Type) (enc : TypeId × Value → H) :
    ReturnsInHanded {} Try.checked os 3 .any (Rows.fnExactRequestOkSpec.pre6 enc Try.prog Try.f3 Rows.fnExactRequestOkRow.domain false) (Rows.fnExactRequestOkSpec.post enc Try.prog Try.f3 false true false false) := by
  refine returnsInHanded_of_change (C := Try.checked) own started (by kernel_rfl) Try.func3
    (ChangeSpec.witness6 (enc := enc) (C := Try.checked) false ⟨#[], #[.agg #[.int .i64 0, .string ⟨#[]⟩, .string ⟨#[]⟩]], []⟩ 8 (by kernel_rfl) (by kernel_rfl) (by kernel_rfl) (by kernel_rfl)) ?_
  intro W base args ds gs before hval0 hW hcnd _
  have hval : ∀ (j : Nat) t v, Try.f3.params[j]? = some t → args[j]? = some v → Value.okWide Try.prog W .any base t v := hval0
  have hW' := hW
  obtain ⟨p, q, hA0, hV, rfl, hfz, hnd⟩ := hW
  have hA : DataW.TrodAll enc Try.prog W 0 (fun _ => true) true Try.f3.params.toList args.toList ds p := hA0
  rw [Try.params3] at hA hval
  clear hA0 hval0
  obtain ⟨v0, vs0, d0, ds0, p0, q0, e0, rfl, rfl, h0, t0⟩ := trodAll_cons hA
  obtain ⟨rfl, rfl, rfl⟩ := trodAll_nil t0
  obtain rfl : args = #[v0] := by cases args; simp_all
  obtain ⟨x0, k0, r0⟩ := Rd.agg (fun n => (rd23 n)) Try.underlying23 (hval 0 23 v0 rfl rfl) h0
  obtain ⟨k, hk⟩ := law x0 k0
  have hc := claws_FnExactRequestOk hk X0 W [v0] ⟨v0, _, rfl, r0, rfl⟩ (fun b _ => rfl)
  refine hc.mono fun e W' ⟨u, X', od, he, hb, _, _, hrel, _⟩ => ?_
  subst he
  have hu : u = .bool true := hrel
  subst hu
  refine ⟨_, rfl, post_true (tb := 4) laidOut ?_ rfl Try.underlying4 rfl ?_ hW' hb⟩
  · rw [Try.params3]
    intro t ht
    have hb : [23].all (fun t => Try.prog.readableRec t && Nat.blt t Try.prog.types.size) = true := by kernel_rfl
    have := List.all_eq_true.1 hb t ht
    rw [Bool.and_eq_true] at this
    exact ⟨this.1, lt_of_blt this.2⟩
  · intro ds h
    match ds, h with
    | [d0], _ => rfl
/-- What is claimed. -/
theorem holds : Rows.FnExactRequestOkSaid :=
  OpenClaim.holds_of_wide 3 Try.f3 rfl rfl rfl rfl rfl rfl rfl ⟨rfl, rfl, rfl, rfl, rfl⟩ rfl rfl rfl rfl rfl (by kernel_rfl) Try.func3 (by kernel_rfl)
    (of_decide_eq_true (by kernel_rfl)) (by unfold Func.isWrapper; first | (rw [if_pos (by decide +kernel)]; kernel_rfl) | (rw [if_neg (by decide +kernel)]; exact ⟨rfl, rfl⟩))
    (fun os started H enc _ => lifted os started H enc)
end FnExactRequestOk
/-- The program and the reference answer alike, for every input. -/
theorem fnExactRequestOk_holds : Rows.FnExactRequestOkSaid := FnExactRequestOk.holds
end Go.Proofs.Ytbpenglnebpbcaa

/- FnExactTermOf: the program answers as the reference does, for every input. -/
import Derived.Test.YtbfkmgenokhkgaaRows
import Derived.Test.YtbfkmgenokhkgaaLaw
set_option linter.unusedVariables false
set_option linter.unusedSimpArgs false
namespace Go.Proofs.Ytbfkmgenokhkgaa
open Go.ChangeShapes Go.WideShapes Go.ChangeAt Go.RowKit Go.Bv
namespace FnExactTermOf
theorem rd93 (n : Nat) : Rd Try.prog n 93 GIns.c GIns.ok := Rd.struct Try.underlying93 (β := Int × ByteArray × Int × Int × Unit) (d := (cP cI.i64 (cP cS (cP cI.i64 (cP cI.i64 cU))))) (okd := (okP (okI .i64) (okP okFs (okP (okI .i64) (okP (okI .i64) okU))))) (fun m _ => (RdF.cons (o := 0) (s := 1) rfl (by kernel_rfl) (Rd.i64 Try.underlying3) (RdF.cons (o := 1) (s := 1) rfl (by kernel_rfl) (Rd.string Try.underlying9) (RdF.cons (o := 2) (s := 1) rfl (by kernel_rfl) (Rd.i64 Try.underlying3) (RdF.cons (o := 3) (s := 1) rfl (by kernel_rfl) (Rd.i64 Try.underlying3) RdF.nil))))) (by kernel_rfl) (fun b => GIns.mk b.1 b.2.1 b.2.2.1 b.2.2.2.1) (fun b => rfl) (fun b h => ⟨h.1, h.2.1, h.2.2.1, h.2.2.2.1⟩)
theorem rd44 (n : Nat) : Rd Try.prog n 44 (cL GIns.c) (okL GIns.ok) := Rd.slice Try.underlying44 (by kernel_rfl) GIns.c_len (fun m _ => (rd93 _))
theorem own : ownKnob Try.prog.godebug = none := by kernel_rfl
theorem laidOut : laidOutB Try.prog = true := by kernel_rfl
set_option maxRecDepth 100000 in
theorem lifted (os : Os) (started : os.Started) (H : Type) (enc : TypeId × Value → H) :
    ReturnsInHanded {} Try.checked os 5 .any (Rows.fnExactTermOfSpec.pre6 enc Try.prog Try.f5 Rows.fnExactTermOfRow.domain false) (Rows.fnExactTermOfSpec.post enc Try.prog Try.f5 false true false false) := by
  refine returnsInHanded_of_change (C := Try.checked) own started (by kernel_rfl) Try.func5
    (ChangeSpec.witness6 (enc := enc) (C := Try.checked) false ⟨#[], #[.slice none 0 0], []⟩ 8 (by kernel_rfl) (by kernel_rfl) (by kernel_rfl) (by kernel_rfl)) ?_
  intro W base args ds gs before hval0 hW hcnd _
  have hval : ∀ (j : Nat) t v, Try.f5.params[j]? = some t → args[j]? = some v → Value.okWide Try.prog W .any base t v := hval0
  have hW' := hW
  obtain ⟨p, q, hA0, hV, rfl, hfz, hnd⟩ := hW
  have hA : DataW.TrodAll enc Try.prog W 0 (fun _ => true) true Try.f5.params.toList args.toList ds p := hA0
  rw [Try.params5] at hA hval
  clear hA0 hval0
  obtain ⟨v0, vs0, d0, ds0, p0, q0, e0, rfl, rfl, h0, t0⟩ := trodAll_cons hA
  obtain ⟨rfl, rfl, rfl⟩ := trodAll_nil t0
  obtain rfl : args = #[v0] := by cases args; simp_all
  obtain ⟨x0, k0, r0⟩ := Rd.scalar (a := fun x : List GIns => .sl (List.map GIns.c x)) (ok := okL GIns.ok) (fun n => (rd44 n)) (fun cs hh => by rw [Try.underlying44] at hh; cases hh) (fun l cs hh => by rw [Try.underlying44] at hh; cases hh) (hval 0 44 v0 rfl rfl) h0
  obtain ⟨k, hk⟩ := law x0 k0
  have hc := claws_FnExactTermOf hk X0 W [v0] (fun _ => none) ⟨v0, _, rfl, ⟨r0, fun _ _ h => by cases h⟩, rfl⟩ (fun b _ => ⟨rfl, rfl⟩)
  refine hc.mono fun e W' ⟨u, X', lab', he, hfr, _, _, hrel, _⟩ => ?_
  subst he
  have hb : Below W.heap.size W W' := hfr.below
  have hu : u = .bool true := hrel.1
  subst hu
  refine ⟨_, rfl, post_true (tb := 4) laidOut ?_ rfl Try.underlying4 rfl ?_ hW' hb⟩
  · rw [Try.params5]
    intro t ht
    have hb : [44].all (fun t => Try.prog.readableRec t && Nat.blt t Try.prog.types.size) = true := by kernel_rfl
    have := List.all_eq_true.1 hb t ht
    rw [Bool.and_eq_true] at this
    exact ⟨this.1, lt_of_blt this.2⟩
  · intro ds h
    match ds, h with
    | [d0], _ => rfl
/-- What is claimed. -/
theorem holds : Rows.FnExactTermOfSaid :=
  OpenClaim.holds_of_wide 5 Try.f5 rfl rfl rfl rfl rfl rfl rfl ⟨rfl, rfl, rfl, rfl, rfl⟩ rfl rfl rfl rfl rfl (by kernel_rfl) Try.func5 (by kernel_rfl)
    (of_decide_eq_true (by kernel_rfl)) (by unfold Func.isWrapper; first | (rw [if_pos (by decide +kernel)]; kernel_rfl) | (rw [if_neg (by decide +kernel)]; exact ⟨rfl, rfl⟩))
    (fun os started H enc _ => lifted os started H enc)
end FnExactTermOf
/-- The program and the reference answer alike, for every input. -/
theorem fnExactTermOf_holds : Rows.FnExactTermOfSaid := FnExactTermOf.holds
end Go.Proofs.Ytbfkmgenokhkgaa

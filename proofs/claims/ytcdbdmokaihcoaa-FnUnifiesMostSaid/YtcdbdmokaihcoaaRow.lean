/- FnUnifiesMost: the program answers as the reference does, for every input. -/
import Derived.Test.YtcdbdmokaihcoaaRows
import Derived.Test.YtcdbdmokaihcoaaLaw
set_option linter.unusedVariables false
set_option linter.unusedSimpArgs false
namespace Go.Proofs.Ytcdbdmokaihcoaa
open Go.ChangeShapes Go.WideShapes Go.ChangeAt Go.RowKit Go.Bv
namespace FnUnifiesMost
theorem rd22 (n : Nat) : Rd Try.prog n 22 (cL cI.u8) (okL (okI .u8)) := Rd.slice Try.underlying22 (by kernel_rfl) cI.u8_len (fun m _ => (Rd.u8 Try.underlying5))
theorem own : ownKnob Try.prog.godebug = none := by kernel_rfl
theorem laidOut : laidOutB Try.prog = true := by kernel_rfl
set_option maxRecDepth 100000 in
theorem lifted (os : Os) (started : os.Started) (H : Type) (enc : TypeId × Value → H) :
    ReturnsInHanded {} Try.checked os 3 .any (Rows.fnUnifiesMostSpec.pre6 enc Try.prog Try.f3 Rows.fnUnifiesMostRow.domain false) (Rows.fnUnifiesMostSpec.post enc Try.prog Try.f3 false true false false) := by
  refine returnsInHanded_of_change (C := Try.checked) own started (by kernel_rfl) Try.func3
    (ChangeSpec.witness6 (enc := enc) (C := Try.checked) false ⟨#[], #[.slice none 0 0], []⟩ 8 (by kernel_rfl) (by kernel_rfl) (by kernel_rfl) (by kernel_rfl)) ?_
  intro W base args ds gs before hval0 hW hcnd _
  have hval : ∀ (j : Nat) t v, Try.f3.params[j]? = some t → args[j]? = some v → Value.okWide Try.prog W .any base t v := hval0
  have hW' := hW
  obtain ⟨p, q, hA0, hV, rfl, hfz, hnd⟩ := hW
  have hA : DataW.TrodAll enc Try.prog W 0 (fun _ => true) true Try.f3.params.toList args.toList ds p := hA0
  rw [Try.params3] at hA hval
  clear hA0 hval0
  obtain ⟨v0, vs0, d0, ds0, p0, q0, e0, rfl, rfl, h0, t0⟩ := trodAll_cons hA
  obtain ⟨rfl, rfl, rfl⟩ := trodAll_nil t0
  obtain rfl : args = #[v0] := by cases args; simp_all
  obtain ⟨x0, k0, r0⟩ := Rd.scalar (a := fun x : List Int => .sl (List.map cI.u8 x)) (ok := okL (okI .u8)) (fun n => (rd22 n)) (fun cs hh => by rw [Try.underlying22] at hh; cases hh) (fun l cs hh => by rw [Try.underlying22] at hh; cases hh) (hval 0 22 v0 rfl rfl) h0
  obtain ⟨k, hk⟩ := law x0 k0
  have hc := claws_FnUnifiesMost hk X0 W [v0] (fun _ => none) ⟨v0, _, rfl, ⟨r0, fun _ _ h => by cases h⟩, rfl⟩ (fun b _ => ⟨rfl, rfl⟩) trivial
  refine hc.mono fun e W' ⟨u, X', lab', he, hfr, _, _, hrel, _⟩ => ?_
  subst he
  have hb : Below W.heap.size W W' := hfr.below
  have hu : u = .bool true := hrel.1
  subst hu
  refine ⟨_, rfl, post_true (tb := 4) laidOut ?_ rfl Try.underlying4 rfl ?_ hW' hb⟩
  · rw [Try.params3]
    intro t ht
    have hb : [22].all (fun t => Try.prog.readableRec t && Nat.blt t Try.prog.types.size) = true := by kernel_rfl
    have := List.all_eq_true.1 hb t ht
    rw [Bool.and_eq_true] at this
    exact ⟨this.1, lt_of_blt this.2⟩
  · intro ds h
    match ds, h with
    | [d0], _ => rfl
/-- What is claimed. -/
theorem holds : Rows.FnUnifiesMostSaid :=
  OpenClaim.holds_of_wide 3 Try.f3 rfl rfl rfl rfl rfl rfl rfl ⟨rfl, rfl, rfl, rfl, rfl⟩ rfl rfl rfl rfl rfl (by kernel_rfl) Try.func3 (by kernel_rfl)
    (of_decide_eq_true (by kernel_rfl)) (by unfold Func.isWrapper; first | (rw [if_pos (by decide +kernel)]; kernel_rfl) | (rw [if_neg (by decide +kernel)]; exact ⟨rfl, rfl⟩))
    (fun os started H enc _ => lifted os started H enc)
end FnUnifiesMost
/-- The program and the reference answer alike, for every input. -/
theorem fnUnifiesMost_holds : Rows.FnUnifiesMostSaid := FnUnifiesMost.holds
end Go.Proofs.Ytcdbdmokaihcoaa

/- FnExactHeapOk: the program answers as the reference does, for every input. -/
import Derived.Test.YtjgagbajgdmocaaRows
import Derived.Test.YtjgagbajgdmocaaLaw
set_option linter.unusedVariables false
set_option linter.unusedSimpArgs false
namespace Go.Proofs.Ytjgagbajgdmocaa
open Go.ChangeShapes Go.WideShapes Go.ChangeAt Go.RowKit Go.Bv
namespace FnExactHeapOk
theorem rd23 (n : Nat) : Rd Try.prog n 23 (cL cI.i64) (okL (okI .i64)) := Rd.slice Try.underlying23 (by kernel_rfl) cI.i64_len (fun m _ => (Rd.i64 Try.underlying3))
theorem rd130 (n : Nat) : Rd Try.prog n 130 GCell.c GCell.ok := Rd.struct Try.underlying130 (β := Int × ByteArray × Int × Int × (List Int) × Unit) (d := (cP cI.i64 (cP cS (cP cI.i64 (cP cI.i64 (cP (cL cI.i64) cU)))))) (okd := (okP (okI .i64) (okP okFs (okP (okI .i64) (okP (okI .i64) (okP (okL (okI .i64)) okU)))))) (fun m _ => (RdF.cons (o := 0) (s := 1) rfl (by kernel_rfl) (Rd.i64 Try.underlying3) (RdF.cons (o := 1) (s := 1) rfl (by kernel_rfl) (Rd.string Try.underlying9) (RdF.cons (o := 2) (s := 1) rfl (by kernel_rfl) (Rd.i64 Try.underlying3) (RdF.cons (o := 3) (s := 1) rfl (by kernel_rfl) (Rd.i64 Try.underlying3) (RdF.cons (o := 4) (s := 1) rfl (by kernel_rfl) (rd23 _) RdF.nil)))))) (by kernel_rfl) (fun b => GCell.mk b.1 b.2.1 b.2.2.1 b.2.2.2.1 b.2.2.2.2.1) (fun b => rfl) (fun b h => ⟨h.1, h.2.1, h.2.2.1, h.2.2.2.1, h.2.2.2.2.1⟩)
theorem rd22 (n : Nat) : Rd Try.prog n 22 (cL GCell.c) (okL GCell.ok) := Rd.slice Try.underlying22 (by kernel_rfl) GCell.c_len (fun m _ => (rd130 _))
theorem rd25 (n : Nat) : Rd Try.prog n 25 GHeap.c GHeap.ok := Rd.struct Try.underlying25 (β := (List GCell) × (List Int) × Unit) (d := (cP (cL GCell.c) (cP (cL cI.i64) cU))) (okd := (okP (okL GCell.ok) (okP (okL (okI .i64)) okU))) (fun m _ => (RdF.cons (o := 0) (s := 1) rfl (by kernel_rfl) (rd22 _) (RdF.cons (o := 1) (s := 1) rfl (by kernel_rfl) (rd23 _) RdF.nil))) (by kernel_rfl) (fun b => GHeap.mk b.1 b.2.1) (fun b => rfl) (fun b h => ⟨h.1, h.2.1⟩)
theorem own : ownKnob Try.prog.godebug = none := by kernel_rfl
theorem laidOut : laidOutB Try.prog = true := by kernel_rfl
set_option maxRecDepth 100000 in
theorem lifted (os : Os) (started : os.Started) (H : Type) (enc : TypeId × Value → H) :
    ReturnsInHanded {} Try.checked os 3 .any (Rows.fnExactHeapOkSpec.pre6 enc Try.prog Try.f3 Rows.fnExactHeapOkRow.domain false) (Rows.fnExactHeapOkSpec.post enc Try.prog Try.f3 false true false false) := by
  refine returnsInHanded_of_change (C := Try.checked) own started (by kernel_rfl) Try.func3
    (ChangeSpec.witness6 (enc := enc) (C := Try.checked) false ⟨#[], #[.agg #[.slice none 0 0, .slice none 0 0]], []⟩ 8 (by kernel_rfl) (by kernel_rfl) (by kernel_rfl) (by kernel_rfl)) ?_
  intro W base args ds gs before hval0 hW hcnd _
  have hval : ∀ (j : Nat) t v, Try.f3.params[j]? = some t → args[j]? = some v → Value.okWide Try.prog W .any base t v := hval0
  have hW' := hW
  obtain ⟨p, q, hA0, hV, rfl, hfz, hnd⟩ := hW
  have hA : DataW.TrodAll enc Try.prog W 0 (fun _ => true) true Try.f3.params.toList args.toList ds p := hA0
  rw [Try.params3] at hA hval
  clear hA0 hval0
  obtain ⟨v0, vs0, d0, ds0, p0, q0, e0, rfl, rfl, h0, t0⟩ := trodAll_cons hA
  obtain ⟨rfl, rfl, rfl⟩ := trodAll_nil t0
  obtain rfl : args = #[v0] := by cases args; simp_all
  obtain ⟨x0, k0, r0⟩ := Rd.agg (fun n => (rd25 n)) Try.underlying25 (hval 0 25 v0 rfl rfl) h0
  rw [GHeap.c_eq] at r0
  obtain ⟨k, hk⟩ := law x0 k0
  have hc := claws_FnExactHeapOk hk X0 W [v0] (fun _ => none) ⟨v0, _, rfl, ⟨r0, fun _ _ h => by cases h⟩, rfl⟩ (fun b _ => ⟨rfl, rfl⟩)
  refine hc.mono fun e W' ⟨u, X', lab', he, hfr, _, _, hrel, _⟩ => ?_
  subst he
  have hb : Below W.heap.size W W' := hfr.below
  have hu : u = .bool true := hrel.1
  subst hu
  refine ⟨_, rfl, post_true (tb := 4) laidOut ?_ rfl Try.underlying4 rfl ?_ hW' hb⟩
  · rw [Try.params3]
    intro t ht
    have hb : [25].all (fun t => Try.prog.readableRec t && Nat.blt t Try.prog.types.size) = true := by kernel_rfl
    have := List.all_eq_true.1 hb t ht
    rw [Bool.and_eq_true] at this
    exact ⟨this.1, lt_of_blt this.2⟩
  · intro ds h
    match ds, h with
    | [d0], _ => rfl
/-- What is claimed. -/
theorem holds : Rows.FnExactHeapOkSaid :=
  OpenClaim.holds_of_wide 3 Try.f3 rfl rfl rfl rfl rfl rfl rfl ⟨rfl, rfl, rfl, rfl, rfl⟩ rfl rfl rfl rfl rfl (by kernel_rfl) Try.func3 (by kernel_rfl)
    (of_decide_eq_true (by kernel_rfl)) (by unfold Func.isWrapper; first | (rw [if_pos (by decide +kernel)]; kernel_rfl) | (rw [if_neg (by decide +kernel)]; exact ⟨rfl, rfl⟩))
    (fun os started H enc _ => lifted os started H enc)
end FnExactHeapOk
/-- The program and the reference answer alike, for every input. -/
theorem fnExactHeapOk_holds : Rows.FnExactHeapOkSaid := FnExactHeapOk.holds
end Go.Proofs.Ytjgagbajgdmocaa

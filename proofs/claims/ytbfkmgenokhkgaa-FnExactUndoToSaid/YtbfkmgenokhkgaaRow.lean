/- FnExactUndoTo: the program answers as the reference does, for every input. -/
import Derived.Test.YtbfkmgenokhkgaaRows
import Derived.Test.YtbfkmgenokhkgaaLaw
set_option linter.unusedVariables false
set_option linter.unusedSimpArgs false
namespace Go.Proofs.Ytbfkmgenokhkgaa
open Go.ChangeShapes Go.WideShapes Go.ChangeAt Go.RowKit Go.Bv
namespace FnExactUndoTo
theorem rd52 (n : Nat) : Rd Try.prog n 52 (cL cI.i64) (okL (okI .i64)) := Rd.slice Try.underlying52 (by kernel_rfl) cI.i64_len (fun m _ => (Rd.i64 Try.underlying3))
theorem rd127 (n : Nat) : Rd Try.prog n 127 GCell.c GCell.ok := Rd.struct Try.underlying127 (β := Int × ByteArray × Int × Int × (List Int) × Unit) (d := (cP cI.i64 (cP cS (cP cI.i64 (cP cI.i64 (cP (cL cI.i64) cU)))))) (okd := (okP (okI .i64) (okP okFs (okP (okI .i64) (okP (okI .i64) (okP (okL (okI .i64)) okU)))))) (fun m _ => (RdF.cons (o := 0) (s := 1) rfl (by kernel_rfl) (Rd.i64 Try.underlying3) (RdF.cons (o := 1) (s := 1) rfl (by kernel_rfl) (Rd.string Try.underlying9) (RdF.cons (o := 2) (s := 1) rfl (by kernel_rfl) (Rd.i64 Try.underlying3) (RdF.cons (o := 3) (s := 1) rfl (by kernel_rfl) (Rd.i64 Try.underlying3) (RdF.cons (o := 4) (s := 1) rfl (by kernel_rfl) (rd52 _) RdF.nil)))))) (by kernel_rfl) (fun b => GCell.mk b.1 b.2.1 b.2.2.1 b.2.2.2.1 b.2.2.2.2.1) (fun b => rfl) (fun b h => ⟨h.1, h.2.1, h.2.2.1, h.2.2.2.1, h.2.2.2.2.1⟩)
theorem rd59 (n : Nat) : Rd Try.prog n 59 (cL GCell.c) (okL GCell.ok) := Rd.slice Try.underlying59 (by kernel_rfl) GCell.c_len (fun m _ => (rd127 _))
theorem rd61 (n : Nat) : Rd Try.prog n 61 GHeap.c GHeap.ok := Rd.struct Try.underlying61 (β := (List GCell) × (List Int) × Unit) (d := (cP (cL GCell.c) (cP (cL cI.i64) cU))) (okd := (okP (okL GCell.ok) (okP (okL (okI .i64)) okU))) (fun m _ => (RdF.cons (o := 0) (s := 1) rfl (by kernel_rfl) (rd59 _) (RdF.cons (o := 1) (s := 1) rfl (by kernel_rfl) (rd52 _) RdF.nil))) (by kernel_rfl) (fun b => GHeap.mk b.1 b.2.1) (fun b => rfl) (fun b h => ⟨h.1, h.2.1⟩)
theorem own : ownKnob Try.prog.godebug = none := by kernel_rfl
theorem laidOut : laidOutB Try.prog = true := by kernel_rfl
set_option maxRecDepth 100000 in
theorem lifted (os : Os) (started : os.Started) (H : Type) (enc : TypeId × Value → H) :
    ReturnsInHanded {} Try.checked os 8 .any (Rows.fnExactUndoToSpec.pre6 enc Try.prog Try.f8 Rows.fnExactUndoToRow.domain false) (Rows.fnExactUndoToSpec.post enc Try.prog Try.f8 false true false false) := by
  refine returnsInHanded_of_change (C := Try.checked) own started (by kernel_rfl) Try.func8
    (ChangeSpec.witness6 (enc := enc) (C := Try.checked) false ⟨#[], #[.agg #[.slice none 0 0, .slice none 0 0], .int .i64 0, .int .i64 0], []⟩ 8 (by kernel_rfl) (by kernel_rfl) (by kernel_rfl) (by kernel_rfl)) ?_
  intro W base args ds gs before hval0 hW hcnd _
  have hval : ∀ (j : Nat) t v, Try.f8.params[j]? = some t → args[j]? = some v → Value.okWide Try.prog W .any base t v := hval0
  have hW' := hW
  obtain ⟨p, q, hA0, hV, rfl, hfz, hnd⟩ := hW
  have hA : DataW.TrodAll enc Try.prog W 0 (fun _ => true) true Try.f8.params.toList args.toList ds p := hA0
  rw [Try.params8] at hA hval
  clear hA0 hval0
  obtain ⟨v0, vs0, d0, ds0, p0, q0, e0, rfl, rfl, h0, t0⟩ := trodAll_cons hA
  obtain ⟨v1, vs1, d1, ds1, p1, q1, e1, rfl, rfl, h1, t1⟩ := trodAll_cons t0
  obtain ⟨v2, vs2, d2, ds2, p2, q2, e2, rfl, rfl, h2, t2⟩ := trodAll_cons t1
  obtain ⟨rfl, rfl, rfl⟩ := trodAll_nil t2
  subst e1
  subst e2
  obtain rfl : args = #[v0, v1, v2] := by cases args; simp_all
  obtain ⟨x0, k0, r0⟩ := Rd.agg (fun n => (rd61 n)) Try.underlying61 (hval 0 61 v0 rfl rfl) h0
  rw [GHeap.c_eq] at r0
  obtain ⟨x1, k1, r1⟩ := Rd.scalar (a := fun x : Int => .int .i64 x) (ok := okI .i64) (fun n => (Rd.i64 Try.underlying3)) (fun cs hh => by rw [Try.underlying3] at hh; cases hh) (fun l cs hh => by rw [Try.underlying3] at hh; cases hh) (hval 1 3 v1 rfl rfl) h1
  obtain ⟨x2, k2, r2⟩ := Rd.scalar (a := fun x : Int => .int .i64 x) (ok := okI .i64) (fun n => (Rd.i64 Try.underlying3)) (fun cs hh => by rw [Try.underlying3] at hh; cases hh) (fun l cs hh => by rw [Try.underlying3] at hh; cases hh) (hval 2 3 v2 rfl rfl) h2
  obtain ⟨k, hk⟩ := law x0 x1 x2 k0 k1 k2
  have hc := claws_FnExactUndoTo hk X0 W [v0, v1, v2] (fun _ => none) ⟨v0, _, rfl, ⟨r0, fun _ _ h => by cases h⟩, ⟨v1, _, rfl, ⟨r1, fun _ _ h => by cases h⟩, ⟨v2, _, rfl, ⟨r2, fun _ _ h => by cases h⟩, rfl⟩⟩⟩ (fun b _ => ⟨rfl, rfl⟩)
  refine hc.mono fun e W' ⟨u, X', lab', he, hfr, _, _, hrel, _⟩ => ?_
  subst he
  have hb : Below W.heap.size W W' := hfr.below
  have hu : u = .bool true := hrel.1
  subst hu
  refine ⟨_, rfl, post_true (tb := 4) laidOut ?_ rfl Try.underlying4 rfl ?_ hW' hb⟩
  · rw [Try.params8]
    intro t ht
    have hb : [61, 3, 3].all (fun t => Try.prog.readableRec t && Nat.blt t Try.prog.types.size) = true := by kernel_rfl
    have := List.all_eq_true.1 hb t ht
    rw [Bool.and_eq_true] at this
    exact ⟨this.1, lt_of_blt this.2⟩
  · intro ds h
    match ds, h with
    | [d0, d1, d2], _ => rfl
/-- What is claimed. -/
theorem holds : Rows.FnExactUndoToSaid :=
  OpenClaim.holds_of_wide 8 Try.f8 rfl rfl rfl rfl rfl rfl rfl ⟨rfl, rfl, rfl, rfl, rfl⟩ rfl rfl rfl rfl rfl (by kernel_rfl) Try.func8 (by kernel_rfl)
    (of_decide_eq_true (by kernel_rfl)) (by unfold Func.isWrapper; first | (rw [if_pos (by decide +kernel)]; kernel_rfl) | (rw [if_neg (by decide +kernel)]; exact ⟨rfl, rfl⟩))
    (fun os started H enc _ => lifted os started H enc)
end FnExactUndoTo
/-- The program and the reference answer alike, for every input. -/
theorem fnExactUndoTo_holds : Rows.FnExactUndoToSaid := FnExactUndoTo.holds
end Go.Proofs.Ytbfkmgenokhkgaa

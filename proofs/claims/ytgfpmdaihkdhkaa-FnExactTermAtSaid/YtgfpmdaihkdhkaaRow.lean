/- FnExactTermAt: the program answers as the reference does, for every input. -/
import Derived.Test.YtgfpmdaihkdhkaaRows
import Derived.Test.YtgfpmdaihkdhkaaLaw
set_option linter.unusedVariables false
set_option linter.unusedSimpArgs false
namespace Go.Proofs.Ytgfpmdaihkdhkaa
open Go.ChangeShapes Go.WideShapes Go.ChangeAt Go.RowKit Go.Bv
namespace FnExactTermAt
theorem rd36 (n : Nat) : Rd Try.prog n 36 (cL cI.i64) (okL (okI .i64)) := Rd.slice Try.underlying36 (by kernel_rfl) cI.i64_len (fun m _ => (Rd.i64 Try.underlying3))
theorem rd138 (n : Nat) : Rd Try.prog n 138 GCell.c GCell.ok := Rd.struct Try.underlying138 (β := Int × ByteArray × Int × Int × (List Int) × Unit) (d := (cP cI.i64 (cP cS (cP cI.i64 (cP cI.i64 (cP (cL cI.i64) cU)))))) (okd := (okP (okI .i64) (okP okFs (okP (okI .i64) (okP (okI .i64) (okP (okL (okI .i64)) okU)))))) (fun m _ => (RdF.cons (o := 0) (s := 1) rfl (by kernel_rfl) (Rd.i64 Try.underlying3) (RdF.cons (o := 1) (s := 1) rfl (by kernel_rfl) (Rd.string Try.underlying9) (RdF.cons (o := 2) (s := 1) rfl (by kernel_rfl) (Rd.i64 Try.underlying3) (RdF.cons (o := 3) (s := 1) rfl (by kernel_rfl) (Rd.i64 Try.underlying3) (RdF.cons (o := 4) (s := 1) rfl (by kernel_rfl) (rd36 _) RdF.nil)))))) (by kernel_rfl) (fun b => GCell.mk b.1 b.2.1 b.2.2.1 b.2.2.2.1 b.2.2.2.2.1) (fun b => rfl) (fun b h => ⟨h.1, h.2.1, h.2.2.1, h.2.2.2.1, h.2.2.2.2.1⟩)
theorem rd35 (n : Nat) : Rd Try.prog n 35 (cL GCell.c) (okL GCell.ok) := Rd.slice Try.underlying35 (by kernel_rfl) GCell.c_len (fun m _ => (rd138 _))
theorem rd38 (n : Nat) : Rd Try.prog n 38 GHeap.c GHeap.ok := Rd.struct Try.underlying38 (β := (List GCell) × (List Int) × Unit) (d := (cP (cL GCell.c) (cP (cL cI.i64) cU))) (okd := (okP (okL GCell.ok) (okP (okL (okI .i64)) okU))) (fun m _ => (RdF.cons (o := 0) (s := 1) rfl (by kernel_rfl) (rd35 _) (RdF.cons (o := 1) (s := 1) rfl (by kernel_rfl) (rd36 _) RdF.nil))) (by kernel_rfl) (fun b => GHeap.mk b.1 b.2.1) (fun b => rfl) (fun b h => ⟨h.1, h.2.1⟩)
theorem own : ownKnob Try.prog.godebug = none := by kernel_rfl
theorem laidOut : laidOutB Try.prog = true := by kernel_rfl
set_option maxRecDepth 100000 in
theorem lifted (os : Os) (started : os.Started) (H : Type) (enc : TypeId × Value → H) :
    ReturnsInHanded {} Try.checked os 4 .any (Rows.fnExactTermAtSpec.pre6 enc Try.prog Try.f4 Rows.fnExactTermAtRow.domain false) (Rows.fnExactTermAtSpec.post enc Try.prog Try.f4 false true false false) := by
  refine returnsInHanded_of_change (C := Try.checked) own started (by kernel_rfl) Try.func4
    (ChangeSpec.witness6 (enc := enc) (C := Try.checked) false ⟨#[], #[.agg #[.slice none 0 0, .slice none 0 0], .int .i64 0], []⟩ 8 (by kernel_rfl) (by kernel_rfl) (by kernel_rfl) (by kernel_rfl)) ?_
  intro W base args ds gs before hval0 hW hcnd _
  have hval : ∀ (j : Nat) t v, Try.f4.params[j]? = some t → args[j]? = some v → Value.okWide Try.prog W .any base t v := hval0
  have hW' := hW
  obtain ⟨p, q, hA0, hV, rfl, hfz, hnd⟩ := hW
  have hA : DataW.TrodAll enc Try.prog W 0 (fun _ => true) true Try.f4.params.toList args.toList ds p := hA0
  rw [Try.params4] at hA hval
  clear hA0 hval0
  obtain ⟨v0, vs0, d0, ds0, p0, q0, e0, rfl, rfl, h0, t0⟩ := trodAll_cons hA
  obtain ⟨v1, vs1, d1, ds1, p1, q1, e1, rfl, rfl, h1, t1⟩ := trodAll_cons t0
  obtain ⟨rfl, rfl, rfl⟩ := trodAll_nil t1
  subst e1
  obtain rfl : args = #[v0, v1] := by cases args; simp_all
  obtain ⟨x0, k0, r0⟩ := Rd.agg (fun n => (rd38 n)) Try.underlying38 (hval 0 38 v0 rfl rfl) h0
  rw [GHeap.c_eq] at r0
  obtain ⟨x1, k1, r1⟩ := Rd.scalar (a := fun x : Int => .int .i64 x) (ok := okI .i64) (fun n => (Rd.i64 Try.underlying3)) (fun cs hh => by rw [Try.underlying3] at hh; cases hh) (fun l cs hh => by rw [Try.underlying3] at hh; cases hh) (hval 1 3 v1 rfl rfl) h1
  obtain ⟨k, hk⟩ := law x0 x1 k0 k1
  have hc := claws_FnExactTermAt hk X0 W [v0, v1] (fun _ => none) ⟨v0, _, rfl, ⟨r0, fun _ _ h => by cases h⟩, ⟨v1, _, rfl, ⟨r1, fun _ _ h => by cases h⟩, rfl⟩⟩ (fun b _ => ⟨rfl, rfl⟩)
  refine hc.mono fun e W' ⟨u, X', lab', he, hfr, _, _, hrel, _⟩ => ?_
  subst he
  have hb : Below W.heap.size W W' := hfr.below
  have hu : u = .bool true := hrel.1
  subst hu
  refine ⟨_, rfl, post_true (tb := 4) laidOut ?_ rfl Try.underlying4 rfl ?_ hW' hb⟩
  · rw [Try.params4]
    intro t ht
    have hb : [38, 3].all (fun t => Try.prog.readableRec t && Nat.blt t Try.prog.types.size) = true := by kernel_rfl
    have := List.all_eq_true.1 hb t ht
    rw [Bool.and_eq_true] at this
    exact ⟨this.1, lt_of_blt this.2⟩
  · intro ds h
    match ds, h with
    | [d0, d1], _ => rfl
/-- What is claimed. -/
theorem holds : Rows.FnExactTermAtSaid :=
  OpenClaim.holds_of_wide 4 Try.f4 rfl rfl rfl rfl rfl rfl rfl ⟨rfl, rfl, rfl, rfl, rfl⟩ rfl rfl rfl rfl rfl (by kernel_rfl) Try.func4 (by kernel_rfl)
    (of_decide_eq_true (by kernel_rfl)) (by unfold Func.isWrapper; first | (rw [if_pos (by decide +kernel)]; kernel_rfl) | (rw [if_neg (by decide +kernel)]; exact ⟨rfl, rfl⟩))
    (fun os started H enc _ => lifted os started H enc)
end FnExactTermAt
/-- The program and the reference answer alike, for every input. -/
theorem fnExactTermAt_holds : Rows.FnExactTermAtSaid := FnExactTermAt.holds
end Go.Proofs.Ytgfpmdaihkdhkaa

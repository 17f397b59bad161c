/- FnExactPutTerm: the program answers as the reference does, for every input. -/
import Derived.Test.YtgfpmdaihkdhkaaRows
import Derived.Test.YtgfpmdaihkdhkaaLaw
set_option linter.unusedVariables false
set_option linter.unusedSimpArgs false
namespace Go.Proofs.Ytgfpmdaihkdhkaa
open Go.ChangeShapes Go.WideShapes Go.ChangeAt Go.RowKit Go.Bv
namespace FnExactPutTerm
theorem rd36 (n : Nat) : Rd Try.prog n 36 (cL cI.i64) (okL (okI .i64)) := Rd.slice Try.underlying36 (by kernel_rfl) cI.i64_len (fun m _ => (Rd.i64 Try.underlying3))
theorem rd138 (n : Nat) : Rd Try.prog n 138 GCell.c GCell.ok := Rd.struct Try.underlying138 (β := Int × ByteArray × Int × Int × (List Int) × Unit) (d := (cP cI.i64 (cP cS (cP cI.i64 (cP cI.i64 (cP (cL cI.i64) cU)))))) (okd := (okP (okI .i64) (okP okFs (okP (okI .i64) (okP (okI .i64) (okP (okL (okI .i64)) okU)))))) (fun m _ => (RdF.cons (o := 0) (s := 1) rfl (by kernel_rfl) (Rd.i64 Try.underlying3) (RdF.cons (o := 1) (s := 1) rfl (by kernel_rfl) (Rd.string Try.underlying9) (RdF.cons (o := 2) (s := 1) rfl (by kernel_rfl) (Rd.i64 Try.underlying3) (RdF.cons (o := 3) (s := 1) rfl (by kernel_rfl) (Rd.i64 Try.underlying3) (RdF.cons (o := 4) (s := 1) rfl (by kernel_rfl) (rd36 _) RdF.nil)))))) (by kernel_rfl) (fun b => GCell.mk b.1 b.2.1 b.2.2.1 b.2.2.2.1 b.2.2.2.2.1) (fun b => rfl) (fun b h => ⟨h.1, h.2.1, h.2.2.1, h.2.2.2.1, h.2.2.2.2.1⟩)
theorem rd35 (n : Nat) : Rd Try.prog n 35 (cL GCell.c) (okL GCell.ok) := Rd.slice Try.underlying35 (by kernel_rfl) GCell.c_len (fun m _ => (rd138 _))
theorem rd38 (n : Nat) : Rd Try.prog n 38 GHeap.c GHeap.ok := Rd.struct Try.underlying38 (β := (List GCell) × (List Int) × Unit) (d := (cP (cL GCell.c) (cP (cL cI.i64) cU))) (okd := (okP (okL GCell.ok) (okP (okL (okI .i64)) okU))) (fun m _ => (RdF.cons (o := 0) (s := 1) rfl (by kernel_rfl) (rd35 _) (RdF.cons (o := 1) (s := 1) rfl (by kernel_rfl) (rd36 _) RdF.nil))) (by kernel_rfl) (fun b => GHeap.mk b.1 b.2.1) (fun b => rfl) (fun b h => ⟨h.1, h.2.1⟩)
theorem rdboth56 : ∀ n m, m ≤ n → Rd Try.prog m 56 GTerm.c GTerm.ok ∧ Rd Try.prog m 54 (cL GTerm.c) (okL GTerm.ok)
  | 0, m, hm => by
    have : m = 0 := Nat.le_zero.1 hm
    subst this
    exact ⟨Rd.zero, Rd.zero⟩
  | n + 1, m, hm => by
    have ih := rdboth56 n
    refine ⟨?_, ?_⟩
    · exact Rd.struct Try.underlying56 (β := Int × ByteArray × Int × (List GTerm) × Unit) (d := (cP cI.i64 (cP cS (cP cI.i64 (cP (cL GTerm.c) cU))))) (okd := (okP (okI .i64) (okP okFs (okP (okI .i64) (okP (okL GTerm.ok) okU))))) (fun q hq => by
        have hm : q < n + 1 := Nat.lt_of_lt_of_le hq hm
        exact (RdF.cons (o := 0) (s := 1) rfl (by kernel_rfl) (Rd.i64 Try.underlying3) (RdF.cons (o := 1) (s := 1) rfl (by kernel_rfl) (Rd.string Try.underlying9) (RdF.cons (o := 2) (s := 1) rfl (by kernel_rfl) (Rd.i64 Try.underlying3) (RdF.cons (o := 3) (s := 1) rfl (by kernel_rfl) (ih _ (Nat.le_of_lt_succ hm)).2 RdF.nil))))) (by kernel_rfl) (fun b => GTerm.mk b.1 b.2.1 b.2.2.1 b.2.2.2.1) (fun b => by rw [GTerm.c_eq]; rfl) (fun b h => (.mk _ _ _ _ h.1 h.2.1 h.2.2.1 h.2.2.2.1.1 h.2.2.2.1.2))
    · exact Rd.slice Try.underlying54 (by kernel_rfl) GTerm.c_len (fun q hq => (ih q (Nat.le_of_lt_succ (Nat.lt_of_lt_of_le hq hm))).1)
theorem rd56 (n : Nat) : Rd Try.prog n 56 GTerm.c GTerm.ok := (rdboth56 n n (Nat.le_refl n)).1
theorem rd54 (n : Nat) : Rd Try.prog n 54 (cL GTerm.c) (okL GTerm.ok) := (rdboth56 n n (Nat.le_refl n)).2
theorem own : ownKnob Try.prog.godebug = none := by kernel_rfl
theorem laidOut : laidOutB Try.prog = true := by kernel_rfl
set_option maxRecDepth 100000 in
theorem lifted (os : Os) (started : os.Started) (H : Type) (enc : TypeId × Value → H) :
    ReturnsInHanded {} Try.checked os 6 .any (Rows.fnExactPutTermSpec.pre6 enc Try.prog Try.f6 Rows.fnExactPutTermRow.domain false) (Rows.fnExactPutTermSpec.post enc Try.prog Try.f6 false true false false) := by
  refine returnsInHanded_of_change (C := Try.checked) own started (by kernel_rfl) Try.func6
    (ChangeSpec.witness6 (enc := enc) (C := Try.checked) false ⟨#[], #[.agg #[.slice none 0 0, .slice none 0 0], .agg #[.int .i64 0, .string ⟨#[]⟩, .int .i64 0, .slice none 0 0]], []⟩ 8 (by kernel_rfl) (by kernel_rfl) (by kernel_rfl) (by kernel_rfl)) ?_
  intro W base args ds gs before hval0 hW hcnd _
  have hval : ∀ (j : Nat) t v, Try.f6.params[j]? = some t → args[j]? = some v → Value.okWide Try.prog W .any base t v := hval0
  have hW' := hW
  obtain ⟨p, q, hA0, hV, rfl, hfz, hnd⟩ := hW
  have hA : DataW.TrodAll enc Try.prog W 0 (fun _ => true) true Try.f6.params.toList args.toList ds p := hA0
  rw [Try.params6] at hA hval
  clear hA0 hval0
  obtain ⟨v0, vs0, d0, ds0, p0, q0, e0, rfl, rfl, h0, t0⟩ := trodAll_cons hA
  obtain ⟨v1, vs1, d1, ds1, p1, q1, e1, rfl, rfl, h1, t1⟩ := trodAll_cons t0
  obtain ⟨rfl, rfl, rfl⟩ := trodAll_nil t1
  subst e1
  obtain rfl : args = #[v0, v1] := by cases args; simp_all
  obtain ⟨x0, k0, r0⟩ := Rd.agg (fun n => (rd38 n)) Try.underlying38 (hval 0 38 v0 rfl rfl) h0
  rw [GHeap.c_eq] at r0
  obtain ⟨x1, k1, r1⟩ := Rd.agg (fun n => (rd56 n)) Try.underlying56 (hval 1 56 v1 rfl rfl) h1
  rw [GTerm.c_eq] at r1
  obtain ⟨k, hk⟩ := law x0 x1 k0 k1
  have hc := claws_FnExactPutTerm hk X0 W [v0, v1] (fun _ => none) ⟨v0, _, rfl, ⟨r0, fun _ _ h => by cases h⟩, ⟨v1, _, rfl, ⟨r1, fun _ _ h => by cases h⟩, rfl⟩⟩ (fun b _ => ⟨rfl, rfl⟩)
  refine hc.mono fun e W' ⟨u, X', lab', he, hfr, _, _, hrel, _⟩ => ?_
  subst he
  have hb : Below W.heap.size W W' := hfr.below
  have hu : u = .bool true := hrel.1
  subst hu
  refine ⟨_, rfl, post_true (tb := 4) laidOut ?_ rfl Try.underlying4 rfl ?_ hW' hb⟩
  · rw [Try.params6]
    intro t ht
    have hb : [38, 56].all (fun t => Try.prog.readableRec t && Nat.blt t Try.prog.types.size) = true := by kernel_rfl
    have := List.all_eq_true.1 hb t ht
    rw [Bool.and_eq_true] at this
    exact ⟨this.1, lt_of_blt this.2⟩
  · intro ds h
    match ds, h with
    | [d0, d1], _ => rfl
/-- What is claimed. -/
theorem holds : Rows.FnExactPutTermSaid :=
  OpenClaim.holds_of_wide 6 Try.f6 rfl rfl rfl rfl rfl rfl rfl ⟨rfl, rfl, rfl, rfl, rfl⟩ rfl rfl rfl rfl rfl (by kernel_rfl) Try.func6 (by kernel_rfl)
    (of_decide_eq_true (by kernel_rfl)) (by unfold Func.isWrapper; first | (rw [if_pos (by decide +kernel)]; kernel_rfl) | (rw [if_neg (by decide +kernel)]; exact ⟨rfl, rfl⟩))
    (fun os started H enc _ => lifted os started H enc)
end FnExactPutTerm
/-- The program and the reference answer alike, for every input. -/
theorem fnExactPutTerm_holds : Rows.FnExactPutTermSaid := FnExactPutTerm.holds
end Go.Proofs.Ytgfpmdaihkdhkaa

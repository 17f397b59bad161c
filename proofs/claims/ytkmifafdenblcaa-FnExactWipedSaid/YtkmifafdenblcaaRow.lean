/- FnExactWiped: the program answers as the reference does, for every input. -/
import Derived.Test.YtkmifafdenblcaaRows
import Derived.Test.YtkmifafdenblcaaLaw
set_option linter.unusedVariables false
set_option linter.unusedSimpArgs false
namespace Go.Proofs.Ytkmifafdenblcaa
open Go.ChangeShapes Go.WideShapes Go.ChangeAt Go.RowKit Go.Bv
namespace FnExactWiped
theorem rd23 (n : Nat) : Rd Try.prog n 23 (cL cS) (okL okFs) := Rd.slice Try.underlying23 (by kernel_rfl) cS_len (fun m _ => (Rd.string Try.underlying9))
theorem rdboth104 : ∀ n m, m ≤ n → Rd Try.prog m 104 GTerm.c GTerm.ok ∧ Rd Try.prog m 102 (cL GTerm.c) (okL GTerm.ok)
  | 0, m, hm => by
    have : m = 0 := Nat.le_zero.1 hm
    subst this
    exact ⟨Rd.zero, Rd.zero⟩
  | n + 1, m, hm => by
    have ih := rdboth104 n
    refine ⟨?_, ?_⟩
    · exact Rd.struct Try.underlying104 (β := Int × ByteArray × Int × (List GTerm) × Unit) (d := (cP cI.i64 (cP cS (cP cI.i64 (cP (cL GTerm.c) cU))))) (okd := (okP (okI .i64) (okP okFs (okP (okI .i64) (okP (okL GTerm.ok) okU))))) (fun q hq => by
        have hm : q < n + 1 := Nat.lt_of_lt_of_le hq hm
        exact (RdF.cons (o := 0) (s := 1) rfl (by kernel_rfl) (Rd.i64 Try.underlying3) (RdF.cons (o := 1) (s := 1) rfl (by kernel_rfl) (Rd.string Try.underlying9) (RdF.cons (o := 2) (s := 1) rfl (by kernel_rfl) (Rd.i64 Try.underlying3) (RdF.cons (o := 3) (s := 1) rfl (by kernel_rfl) (ih _ (Nat.le_of_lt_succ hm)).2 RdF.nil))))) (by kernel_rfl) (fun b => GTerm.mk b.1 b.2.1 b.2.2.1 b.2.2.2.1) (fun b => by rw [GTerm.c_eq]; rfl) (fun b h => (.mk _ _ _ _ h.1 h.2.1 h.2.2.1 h.2.2.2.1.1 h.2.2.2.1.2))
    · exact Rd.slice Try.underlying102 (by kernel_rfl) GTerm.c_len (fun q hq => (ih q (Nat.le_of_lt_succ (Nat.lt_of_lt_of_le hq hm))).1)
theorem rd104 (n : Nat) : Rd Try.prog n 104 GTerm.c GTerm.ok := (rdboth104 n n (Nat.le_refl n)).1
theorem rd102 (n : Nat) : Rd Try.prog n 102 (cL GTerm.c) (okL GTerm.ok) := (rdboth104 n n (Nat.le_refl n)).2
theorem rd106 (n : Nat) : Rd Try.prog n 106 GClause.c GClause.ok := Rd.struct Try.underlying106 (β := GTerm × GTerm × ByteArray × Unit) (d := (cP GTerm.c (cP GTerm.c (cP cS cU)))) (okd := (okP GTerm.ok (okP GTerm.ok (okP okFs okU)))) (fun m _ => (RdF.cons (o := 0) (s := 4) rfl (by kernel_rfl) (rd104 _) (RdF.cons (o := 4) (s := 4) rfl (by kernel_rfl) (rd104 _) (RdF.cons (o := 8) (s := 1) rfl (by kernel_rfl) (Rd.string Try.underlying9) RdF.nil)))) (by kernel_rfl) (fun b => GClause.mk b.1 b.2.1 b.2.2.1) (fun b => by rw [GClause.c_eq]; simp only [cP, GTerm.c_eq]; rfl) (fun b h => ⟨h.1, h.2.1, h.2.2.1⟩)
theorem rd22 (n : Nat) : Rd Try.prog n 22 (cL GClause.c) (okL GClause.ok) := Rd.slice Try.underlying22 (by kernel_rfl) GClause.c_len (fun m _ => (rd106 _))
theorem rd25 (n : Nat) : Rd Try.prog n 25 GDb.c GDb.ok := Rd.struct Try.underlying25 (β := (List GClause) × (List ByteArray) × Unit) (d := (cP (cL GClause.c) (cP (cL cS) cU))) (okd := (okP (okL GClause.ok) (okP (okL okFs) okU))) (fun m _ => (RdF.cons (o := 0) (s := 1) rfl (by kernel_rfl) (rd22 _) (RdF.cons (o := 1) (s := 1) rfl (by kernel_rfl) (rd23 _) RdF.nil))) (by kernel_rfl) (fun b => GDb.mk b.1 b.2.1) (fun b => rfl) (fun b h => ⟨h.1, h.2.1⟩)
theorem own : ownKnob Try.prog.godebug = none := by kernel_rfl
theorem laidOut : laidOutB Try.prog = true := by kernel_rfl
set_option maxRecDepth 100000 in
theorem lifted (os : Os) (started : os.Started) (H : Type) (enc : TypeId × Value → H) :
    ReturnsInHanded {} Try.checked os 3 .any (Rows.fnExactWipedSpec.pre6 enc Try.prog Try.f3 Rows.fnExactWipedRow.domain false) (Rows.fnExactWipedSpec.post enc Try.prog Try.f3 false true false false) := by
  refine returnsInHanded_of_change (C := Try.checked) own started (by kernel_rfl) Try.func3
    (ChangeSpec.witness6 (enc := enc) (C := Try.checked) false ⟨#[], #[.agg #[.slice none 0 0, .slice none 0 0], .string ⟨#[]⟩], []⟩ 8 (by kernel_rfl) (by kernel_rfl) (by kernel_rfl) (by kernel_rfl)) ?_
  intro W base args ds gs before hval0 hW hcnd _
  have hval : ∀ (j : Nat) t v, Try.f3.params[j]? = some t → args[j]? = some v → Value.okWide Try.prog W .any base t v := hval0
  have hW' := hW
  obtain ⟨p, q, hA0, hV, rfl, hfz, hnd⟩ := hW
  have hA : DataW.TrodAll enc Try.prog W 0 (fun _ => true) true Try.f3.params.toList args.toList ds p := hA0
  rw [Try.params3] at hA hval
  clear hA0 hval0
  obtain ⟨v0, vs0, d0, ds0, p0, q0, e0, rfl, rfl, h0, t0⟩ := trodAll_cons hA
  obtain ⟨v1, vs1, d1, ds1, p1, q1, e1, rfl, rfl, h1, t1⟩ := trodAll_cons t0
  obtain ⟨rfl, rfl, rfl⟩ := trodAll_nil t1
  subst e1
  obtain rfl : args = #[v0, v1] := by cases args; simp_all
  obtain ⟨x0, k0, r0⟩ := Rd.agg (fun n => (rd25 n)) Try.underlying25 (hval 0 25 v0 rfl rfl) h0
  rw [GDb.c_eq] at r0
  obtain ⟨x1, k1, r1⟩ := Rd.scalar (a := fun x : ByteArray => .str x) (ok := okFs) (fun n => (Rd.string Try.underlying9)) (fun cs hh => by rw [Try.underlying9] at hh; cases hh) (fun l cs hh => by rw [Try.underlying9] at hh; cases hh) (hval 1 9 v1 rfl rfl) h1
  obtain ⟨k, hk⟩ := law x0 x1 k0 k1
  have hc := claws_FnExactWiped hk X0 W [v0, v1] (fun _ => none) ⟨v0, _, rfl, ⟨r0, fun _ _ h => by cases h⟩, ⟨v1, _, rfl, ⟨r1, fun _ _ h => by cases h⟩, rfl⟩⟩ (fun b _ => ⟨rfl, rfl⟩) trivial
  refine hc.mono fun e W' ⟨u, X', lab', he, hfr, _, _, hrel, _⟩ => ?_
  subst he
  have hb : Below W.heap.size W W' := hfr.below
  have hu : u = .bool true := hrel.1
  subst hu
  refine ⟨_, rfl, post_true (tb := 4) laidOut ?_ rfl Try.underlying4 rfl ?_ hW' hb⟩
  · rw [Try.params3]
    intro t ht
    have hb : [25, 9].all (fun t => Try.prog.readableRec t && Nat.blt t Try.prog.types.size) = true := by kernel_rfl
    have := List.all_eq_true.1 hb t ht
    rw [Bool.and_eq_true] at this
    exact ⟨this.1, lt_of_blt this.2⟩
  · intro ds h
    match ds, h with
    | [d0, d1], _ => rfl
/-- What is claimed. -/
theorem holds : Rows.FnExactWipedSaid :=
  OpenClaim.holds_of_wide 3 Try.f3 rfl rfl rfl rfl rfl rfl rfl ⟨rfl, rfl, rfl, rfl, rfl⟩ rfl rfl rfl rfl rfl (by kernel_rfl) Try.func3 (by kernel_rfl)
    (of_decide_eq_true (by kernel_rfl)) (by unfold Func.isWrapper; first | (rw [if_pos (by decide +kernel)]; kernel_rfl) | (rw [if_neg (by decide +kernel)]; exact ⟨rfl, rfl⟩))
    (fun os started H enc _ => lifted os started H enc)
end FnExactWiped
/-- The program and the reference answer alike, for every input. -/
theorem fnExactWiped_holds : Rows.FnExactWipedSaid := FnExactWiped.holds
end Go.Proofs.Ytkmifafdenblcaa

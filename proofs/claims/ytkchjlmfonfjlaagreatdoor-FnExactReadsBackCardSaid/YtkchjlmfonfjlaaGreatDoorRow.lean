/- FnExactReadsBack: the program answers as the reference does, for every input; the tables that its row lists are tied to the program. -/
import Derived.Test.YtkchjlmfonfjlaaGreatDoorRows
import Derived.Test.YtkchjlmfonfjlaaGreatDoorCards
import Derived.Test.YtkchjlmfonfjlaaGreatDoorTie
import Derived.Test.YtkchjlmfonfjlaaGreatDoorLaw
import Derived.ChangeSame
import Derived.ChangeVars
import Derived.JoinedOf
import Derived.RowKit
import Derived.RowKitTokens
import Derived.LaidLaws
import Derived.LaidHandle
import Derived.Stop.Joined
import Derived.Stop.LaidErr
import Derived.SevenTiedAt
set_option linter.unusedVariables false
set_option linter.unusedSimpArgs false
namespace Go.Proofs.YtkchjlmfonfjlaaGreatDoor
open Go.ChangeShapes Go.WideShapes Go.ChangeAt Go.RowKit Go.Bv
namespace FnExactReadsBack
theorem Zif : ∀ n m, m ≤ n → Rd Tryz.prog m 24 GTerm.c GTerm.ok ∧ Rd Tryz.prog m 22 (cL GTerm.c) (okL GTerm.ok)
  | 0, m, hm => by
    have : m = 0 := Nat.le_zero.1 hm
    subst this
    exact ⟨Rd.zero, Rd.zero⟩
  | n + 1, m, hm => by
    have ih := Zif n
    refine ⟨?_, ?_⟩
    · exact Rd.struct Tryz.underlying24 (β := Int × ByteArray × Int × (List GTerm) × Unit) (d := (cP cI.i64 (cP cS (cP cI.i64 (cP (cL GTerm.c) cU))))) (okd := (okP (okI .i64) (okP okFs (okP (okI .i64) (okP (okL GTerm.ok) okU))))) (fun q hq => by
        have hm : q < n + 1 := Nat.lt_of_lt_of_le hq hm
        exact (RdF.cons (o := 0) (s := 1) rfl (by kernel_rfl) (Rd.i64 Tryz.underlying3) (RdF.cons (o := 1) (s := 1) rfl (by kernel_rfl) (Rd.string Tryz.underlying9) (RdF.cons (o := 2) (s := 1) rfl (by kernel_rfl) (Rd.i64 Tryz.underlying3) (RdF.cons (o := 3) (s := 1) rfl (by kernel_rfl) (ih _ (Nat.le_of_lt_succ hm)).2 RdF.nil))))) (by kernel_rfl) (fun b => GTerm.mk b.1 b.2.1 b.2.2.1 b.2.2.2.1) (fun b => by rw [GTerm.c_eq]; rfl) (fun b h => (.mk _ _ _ _ h.1 h.2.1 h.2.2.1 h.2.2.2.1.1 h.2.2.2.1.2))
    · exact Rd.slice Tryz.underlying22 (by kernel_rfl) GTerm.c_len (fun q hq => (ih q (Nat.le_of_lt_succ (Nat.lt_of_lt_of_le hq hm))).1)
theorem rd24 (n : Nat) : Rd Tryz.prog n 24 GTerm.c GTerm.ok := (Zif n n (Nat.le_refl n)).1
theorem rd22 (n : Nat) : Rd Tryz.prog n 22 (cL GTerm.c) (okL GTerm.ok) := (Zif n n (Nat.le_refl n)).2
theorem own : ownKnob Tryz.prog.godebug = none := by kernel_rfl
theorem Zu0 : laidOutB Tryz.prog = true := by kernel_rfl
theorem Zul {P : Program} {w : World} {n : String} {cs : Array Value} (h : w.var? P n = some cs) : ∀ g, P.globalNamed n = some g → g < w.heap.size := by
  intro g hg
  unfold World.var? at h
  rw [hg] at h
  simp only [Option.bind_some] at h
  rcases Nat.lt_or_ge g w.heap.size with h' | h'
  · exact h'
  · rw [Array.getElem?_eq_none h'] at h; cases h
theorem Zoz : ∀ {l : List (String × DataW Unit)} {W : World}, (l.any fun x => decide (x.1 = tab10)) = true → (∀ x ∈ l, x.1 = tab10 → x.2 = Lib.tabData .u64 Lib.pow10Tab) → laidMet Tryz.prog l W → Lib.TabIs Tryz.prog W tab10 .u64 Lib.pow10Tab
  | [], W, h, _, _ => by cases h
  | x :: l, W, h, hd, hm => by
    by_cases c : x.1 = tab10
    · obtain ⟨n, d⟩ := x
      have c : n = tab10 := c
      subst c
      have e := hd _ (List.mem_cons_self ..) rfl
      have e : d = Lib.tabData .u64 Lib.pow10Tab := e
      subst e
      exact Lib.tabIs_of_head (g := 1) (t := 123) (e := 117) (n := 20) (by kernel_rfl) (by kernel_rfl) (by kernel_rfl) (by kernel_rfl) (by kernel_rfl) (by kernel_rfl) hm
    · exact Zoz (by simpa [c] using h) (fun y hy => hd y (List.mem_cons_of_mem _ hy)) hm.tail
theorem Zvw {W : World} (hL : laidMetH Tryz.prog Rows.fnExactReadsBackRow.laid W) : GT Tryz.prog W (fun _ => ∃ q : Nat × Nat, (none : Option (Nat × Nat)) = some q) := by
  have h' : laidMet Tryz.prog Rows.fnExactReadsBackRow.laid W := hL
  have ht : Lib.TabIs Tryz.prog W tab10 .u64 Lib.pow10Tab := Zoz (by decide +kernel) (fun x hx hn => by
    rw [show Rows.fnExactReadsBackRow.laid = [("math/bits.deBruijn32tab", Rows.laid_math_bits_deBruijn32tab), ("math/bits.deBruijn64tab", Rows.laid_math_bits_deBruijn64tab), ("internal/strconv.uint64pow10", Rows.laid_internal_strconv_uint64pow10)] from rfl] at hx
    simp only [List.mem_cons, List.not_mem_nil, or_false] at hx
    rcases hx with rfl | rfl | rfl
    · first | exact absurd hn (by decide +kernel) | kernel_rfl
    · first | exact absurd hn (by decide +kernel) | kernel_rfl
    · first | exact absurd hn (by decide +kernel) | kernel_rfl) h'
  exact fun g hg => ⟨Zul ht g hg, (by rintro ⟨q, hq⟩; cases hq), ht⟩
def litV : DataW Unit → Value
  | .lit (.int k z) => .int k z
  | _ => .bool false
def Zqr : DataW Unit → Array Value
  | .agg l => (l.map litV).toArray
  | _ => #[]
noncomputable def Zk7 (os : Os) : World :=
  let w0 := World.holding Tryz.prog os ⟨#[], #[], []⟩
  { w0 with heap := (Rows.fnExactReadsBackRow.laid).foldl (fun h x => match Tryz.prog.globalNamed x.1 with
      | some g => h.modify g fun
        | .cells _ t fr => .cells (Zqr x.2) t fr
        | o => o
      | none => h) w0.heap }
theorem Ziq (os : Os) (args : Array Value) : laidMetH Tryz.prog Rows.fnExactReadsBackRow.laid ((Zk7 os).forCall (fun _ _ => 0) ⟨#[], args, []⟩).memory :=
  laidMetH_of_parts (laidMet_of_run' 8 (by kernel_rfl) (by kernel_rfl)) (by kernel_rfl)
set_option maxRecDepth 100000 in
theorem lifted (os : Os) (started : os.Started) (H : Type) (enc : TypeId × Value → H) :
    ReturnsInHanded {} Tryz.checked os 3 .any (fun w args => (Rows.fnExactReadsBackSpec.pre enc Tryz.prog Tryz.f3 Rows.fnExactReadsBackRow.domain false w args ∧ laidMetH Tryz.prog Rows.fnExactReadsBackRow.laid w) ∧ sizedMet enc Tryz.prog Tryz.f3 (OpenSpec.ofChange Rows.fnExactReadsBackSpec) false w args)
      (Rows.fnExactReadsBackSpec.post enc Tryz.prog Tryz.f3 false true false false) := by
  refine returnsInHanded_of_change_and (C := Tryz.checked) (X := (fun w _ => laidMetH Tryz.prog Rows.fnExactReadsBackRow.laid w)) (fun _ _ _ hh h => h.of_heap hh) own started (by kernel_rfl) Tryz.func3
    (ChangeSpec.witness_at (enc := enc) (C := Tryz.checked) (os := os) (X := (fun w _ => laidMetH Tryz.prog Rows.fnExactReadsBackRow.laid w)) false (Zk7 os) #[.agg #[.int .i64 0, .string ⟨#[]⟩, .int .i64 0, .slice none 0 0]] 8 rfl (by kernel_rfl) (by kernel_rfl) (by kernel_rfl) (by kernel_rfl) (by kernel_rfl) (Ziq os _)) ?_
  intro W base args ds gs before hval0 hW hcnd _ hL _
  have hval : ∀ (j : Nat) t v, Tryz.f3.params[j]? = some t → args[j]? = some v → Value.okWide Tryz.prog W .any base t v := hval0
  have hW' := hW
  obtain ⟨p, q, hA0, hV, rfl, hfz, hnd⟩ := hW
  have hA : DataW.TrodAll enc Tryz.prog W 0 (fun _ => true) true Tryz.f3.params.toList args.toList ds p := hA0
  rw [Tryz.params3] at hA hval
  clear hA0 hval0
  obtain ⟨v0, vs0, d0, ds0, p0, q0, e0, rfl, rfl, h0, t0⟩ := trodAll_cons hA
  obtain ⟨rfl, rfl, rfl⟩ := trodAll_nil t0
  obtain rfl : args = #[v0] := by cases args; simp_all
  obtain ⟨x0, k0, r0⟩ := Rd.agg (fun n => (rd24 n)) Tryz.underlying24 (hval 0 24 v0 rfl rfl) h0
  rw [GTerm.c_eq] at r0
  obtain ⟨k, hk⟩ := law x0 k0
  have hc := Zad hk X0 W [v0] (fun _ => none) ⟨v0, _, rfl, ⟨r0, fun _ _ h => by cases h⟩, rfl⟩ (fun b _ => ⟨rfl, rfl⟩) (Zvw hL)
  refine hc.mono fun e W' ⟨u, X', lab', he, hfr, _, _, hrel, _⟩ => ?_
  subst he
  have hb : Below W.heap.size W W' := hfr.below
  have hu : u = .bool true := hrel.1
  subst hu
  refine ⟨_, rfl, Zpl (tb := 4) Zu0 ?_ rfl Tryz.underlying4 rfl ?_ hW' hb⟩
  · rw [Tryz.params3]
    intro t ht
    have hb : [24].all (fun t => Tryz.prog.readableRec t && Nat.blt t Tryz.prog.types.size) = true := by kernel_rfl
    have := List.all_eq_true.1 hb t ht
    rw [Bool.and_eq_true] at this
    exact ⟨this.1, Z4f this.2⟩
  · intro ds h
    match ds, h with
    | [d0], _ => rfl
set_option maxHeartbeats 0 in
theorem closed : joinedFacts Tryz.prog 3 Tryz.f3 Rows.fnExactReadsBackSpec Rows.fnExactReadsBackRow = true := by
  simp only [joinedFacts, Bool.and_eq_true]
  repeat' apply And.intro
  all_goals (as_aux_lemma => kernel_rfl)
/-- What is claimed. -/
theorem holds : Rows.FnExactReadsBackSaid :=
  OpenClaim.holds_of_wide 3 Tryz.f3 rfl rfl rfl rfl rfl rfl rfl ⟨rfl, rfl, rfl, rfl, rfl⟩ rfl rfl rfl rfl rfl (by as_aux_lemma => kernel_rfl) Tryz.func3 closed
    (of_decide_eq_true (by as_aux_lemma => kernel_rfl)) (by unfold Func.isWrapper; first | (rw [if_pos (by decide +kernel)]; kernel_rfl) | (rw [if_neg (by decide +kernel)]; exact ⟨rfl, rfl⟩))
    (fun os started H enc _ => lifted os started H enc)
end FnExactReadsBack
/-- The tied card. -/
theorem fnExactReadsBack_card : Rows.FnExactReadsBackCardSaid :=
  Claim7.holds_tied_plain_at .later [] [.data, .data, .data] true _ false
    FnExactReadsBack.holds (fun _ h => by cases h) (by as_aux_lemma => kernel_rfl) (fun _ h => by cases h) fnExactReadsBack_row_tie rfl ⟨rfl, rfl⟩ (by as_aux_lemma => kernel_rfl) rfl
    (fun f fn hf hfn => by
      obtain rfl : f = 3 := oInj ((show Tryz.prog.funcNamed Rows.fnExactReadsBackRow.func = some 3 by as_aux_lemma => kernel_rfl).symm.trans hf) |>.symm
      obtain rfl : fn = Tryz.f3 := (oInj (Tryz.func3.symm.trans hfn)).symm
      exact ⟨by as_aux_lemma => kernel_rfl, fun j t ht => by
        rw [Tryz.params3] at ht
        have hb : [24].all (fun t => !Tryz.prog.wantsStandIn t) = true := by as_aux_lemma => kernel_rfl
        have hm : t ∈ [24] := by
          have := List.mem_of_getElem? (l := [24]) (i := j) (by simpa using ht)
          exact this
        have hq := List.all_eq_true.1 hb t hm
        rw [Bool.not_eq_true'] at hq
        exact hq⟩)
    (by as_aux_lemma => kernel_rfl)
end Go.Proofs.YtkchjlmfonfjlaaGreatDoor

/- FnLogic: the program answers as the reference does, for every input; the tables that its row lists are tied to the program. -/
import Derived.Test.YtjaaacbiaimdlaaGreatDoorRows
import Derived.Test.YtjaaacbiaimdlaaGreatDoorCards
import Derived.Test.YtjaaacbiaimdlaaGreatDoorTie
import Derived.Test.YtjaaacbiaimdlaaGreatDoorLaw
import Derived.ChangeSame
import Derived.ChangeVars
import Derived.JoinedOf
import Derived.RowKit
import Derived.RowKitTokens
import Derived.LaidLaws
import Derived.LaidHandle
import Derived.Stop.Joined
import Derived.Stop.LaidErr
import Derived.SevenTiedAt
set_option linter.unusedVariables false
set_option linter.unusedSimpArgs false
namespace Go.Proofs.YtjaaacbiaimdlaaGreatDoor
open Go.ChangeShapes Go.WideShapes Go.ChangeAt Go.RowKit Go.Bv
namespace FnLogic
theorem rd22 (n : Nat) : Rd Tryz.prog n 22 (cL cI.u8) (okL (okI .u8)) := Rd.slice Tryz.underlying22 (by kernel_rfl) cI.u8_len (fun m _ => (Rd.u8 Tryz.underlying5))
theorem own : ownKnob Tryz.prog.godebug = none := by kernel_rfl
theorem Z10p : laidOutB Tryz.prog = true := by kernel_rfl
theorem Z11g {P : Program} {w : World} {n : String} {cs : Array Value} (h : w.var? P n = some cs) : ∀ g, P.globalNamed n = some g → g < w.heap.size := by
 intro g hg
 unfold World.var? at h
 rw [hg] at h
 simp only [Option.bind_some] at h
 rcases Nat.lt_or_ge g w.heap.size with h' | h'
 ·exact h'
 ·rw [Array.getElem?_eq_none h'] at h; cases h
theorem Zuh : ∀ {l : List (String × DataW Unit)} {W : World}, (l.any fun x => decide (x.1 = tab10)) = true → (∀ x ∈ l, x.1 = tab10 → x.2 = Lib.tabData .u64 Lib.pow10Tab) → laidMet Tryz.prog l W → Lib.TabIs Tryz.prog W tab10 .u64 Lib.pow10Tab
 | [], W, h, _, _ => by cases h
 | x :: l, W, h, hd, hm => by
  by_cases c : x.1 = tab10
  ·obtain ⟨n, d⟩ := x
   have c : n = tab10 := c
   subst c
   have e := hd _ (List.mem_cons_self ..) rfl
   have e : d = Lib.tabData .u64 Lib.pow10Tab := e
   subst e
   exact Lib.tabIs_of_head (g := 0) (t := 170) (e := 162) (n := 20) (by kernel_rfl) (by kernel_rfl) (by kernel_rfl) (by kernel_rfl) (by kernel_rfl) (by kernel_rfl) hm
  ·exact Zuh (by simpa [c] using h) (fun y hy => hd y (List.mem_cons_of_mem _ hy)) hm.tail
theorem Z12f {W : World} (hL : laidMetH Tryz.prog Rows.fnLogicRow.laid W) : GT Tryz.prog W (fun _ => ∃ q : Nat × Nat, (none : Option (Nat × Nat)) = some q) := by
 have h' : laidMet Tryz.prog Rows.fnLogicRow.laid W := hL
 have ht : Lib.TabIs Tryz.prog W tab10 .u64 Lib.pow10Tab := Zuh (by decide +kernel) (fun x hx hn => by
  rw [show Rows.fnLogicRow.laid = [("math/bits.deBruijn32tab", Rows.laid_math_bits_deBruijn32tab), ("math/bits.deBruijn64tab", Rows.laid_math_bits_deBruijn64tab), ("internal/strconv.uint64pow10", Rows.laid_internal_strconv_uint64pow10)] from rfl] at hx
  simp only [List.mem_cons, List.not_mem_nil, or_false] at hx
  rcases hx with rfl | rfl | rfl
  ·first | exact absurd hn (by decide +kernel) | kernel_rfl
  ·first | exact absurd hn (by decide +kernel) | kernel_rfl
  ·first | exact absurd hn (by decide +kernel) | kernel_rfl) h'
 exact fun g hg => ⟨Z11g ht g hg, (by rintro ⟨q, hq⟩; cases hq), ht⟩
def litV : DataW Unit → Value
 | .lit (.int k z) => .int k z
 | _ => .bool false
def Zwa : DataW Unit → Array Value
 | .agg l => (l.map litV).toArray
 | _ => #[]
noncomputable def Zoq (os : Os) : World :=
 let w0 := World.holding Tryz.prog os ⟨#[], #[], []⟩
 { w0 with heap := (Rows.fnLogicRow.laid).foldl (fun h x => match Tryz.prog.globalNamed x.1 with
   | some g => h.modify g fun
    | .cells _ t fr => .cells (Zwa x.2) t fr
    | o => o
   | none => h) w0.heap }
theorem Zn2 (os : Os) (args : Array Value) : laidMetH Tryz.prog Rows.fnLogicRow.laid ((Zoq os).forCall (fun _ _ => 0) ⟨#[], args, []⟩).memory :=
 laidMetH_of_parts (laidMet_of_run' 8 (by kernel_rfl) (by kernel_rfl)) (by kernel_rfl)
set_option maxRecDepth 100000 in
theorem lifted (os : Os) (started : os.Started) (H : Type) (enc : TypeId × Value → H) :
  ReturnsInHanded {} Tryz.checked os 3 .any (fun w args => (Rows.fnLogicSpec.pre enc Tryz.prog Tryz.f3 Rows.fnLogicRow.domain false w args ∧ laidMetH Tryz.prog Rows.fnLogicRow.laid w) ∧ sizedMet enc Tryz.prog Tryz.f3 (OpenSpec.ofChange Rows.fnLogicSpec) false w args)
   (Rows.fnLogicSpec.post enc Tryz.prog Tryz.f3 false true false false) := by
 refine returnsInHanded_of_change_and (C := Tryz.checked) (X := (fun w _ => laidMetH Tryz.prog Rows.fnLogicRow.laid w)) (fun _ _ _ hh h => h.of_heap hh) own started (by kernel_rfl) Tryz.func3
  (ChangeSpec.witness_at (enc := enc) (C := Tryz.checked) (os := os) (X := (fun w _ => laidMetH Tryz.prog Rows.fnLogicRow.laid w)) false (Zoq os) #[.slice none 0 0] 8 rfl (by kernel_rfl) (by kernel_rfl) (by kernel_rfl) (by kernel_rfl) (by kernel_rfl) (Zn2 os _)) ?_
 intro W base args ds gs before hval0 hW hcnd _ hL _
 have hval : ∀ (j : Nat) t v, Tryz.f3.params[j]? = some t → args[j]? = some v → Value.okWide Tryz.prog W .any base t v := hval0
 have hW' := hW
 obtain ⟨p, q, hA0, hV, rfl, hfz, hnd⟩ := hW
 have hA : DataW.TrodAll enc Tryz.prog W 0 (fun _ => true) true Tryz.f3.params.toList args.toList ds p := hA0
 rw [Tryz.params3] at hA hval
 clear hA0 hval0
 obtain ⟨v0, vs0, d0, ds0, p0, q0, e0, rfl, rfl, h0, t0⟩ := trodAll_cons hA
 obtain ⟨rfl, rfl, rfl⟩ := trodAll_nil t0
 obtain rfl : args = #[v0] := by cases args; simp_all
 obtain ⟨x0, k0, r0⟩ := Rd.scalar (a := fun x : List Int => .sl (List.map cI.u8 x)) (ok := okL (okI .u8)) (fun n => (rd22 n)) (fun cs hh => by rw [Tryz.underlying22] at hh; cases hh) (fun l cs hh => by rw [Tryz.underlying22] at hh; cases hh) (hval 0 22 v0 rfl rfl) h0
 obtain ⟨k, hk⟩ := law x0 k0
 have hc := Zni hk X0 W [v0] (fun _ => none) ⟨v0, _, rfl, ⟨r0, fun _ _ h => by cases h⟩, rfl⟩ (fun b _ => ⟨rfl, rfl⟩) (Z12f hL)
 refine hc.mono fun e W' ⟨u, X', lab', he, hfr, _, _, hrel, _⟩ => ?_
 subst he
 have hb : Below W.heap.size W W' := hfr.below
 have hu : u = .bool true := hrel.1
 subst hu
 refine ⟨_, rfl, Zv1 (tb := 4) Z10p ?_ rfl Tryz.underlying4 rfl ?_ hW' hb⟩
 ·rw [Tryz.params3]
  intro t ht
  have hb : [22].all (fun t => Tryz.prog.readableRec t && Nat.blt t Tryz.prog.types.size) = true := by kernel_rfl
  have := List.all_eq_true.1 hb t ht
  rw [Bool.and_eq_true] at this
  exact ⟨this.1, Z4a this.2⟩
 ·intro ds h
  match ds, h with
  | [d0], _ => rfl
set_option maxHeartbeats 0 in
theorem closed : joinedFacts Tryz.prog 3 Tryz.f3 Rows.fnLogicSpec Rows.fnLogicRow = true := by
 simp only [joinedFacts, Bool.and_eq_true]
 repeat' apply And.intro
 all_goals (as_aux_lemma => kernel_rfl)
/-- What is claimed. -/
theorem holds : Rows.FnLogicSaid :=
 OpenClaim.holds_of_wide 3 Tryz.f3 rfl rfl rfl rfl rfl rfl rfl ⟨rfl, rfl, rfl, rfl, rfl⟩ rfl rfl rfl rfl rfl (by as_aux_lemma => kernel_rfl) Tryz.func3 closed
  (of_decide_eq_true (by as_aux_lemma => kernel_rfl)) (by unfold Func.isWrapper; first | (rw [if_pos (by decide +kernel)]; kernel_rfl) | (rw [if_neg (by decide +kernel)]; exact ⟨rfl, rfl⟩))
  (fun os started H enc _ => lifted os started H enc)
end FnLogic
/-- The tied card. -/
theorem fnLogic_card : Rows.FnLogicCardSaid :=
 Claim7.holds_tied_plain_at .later [] [.data, .data, .data] true _ false
  FnLogic.holds (fun _ h => by cases h) (by as_aux_lemma => kernel_rfl) (fun _ h => by cases h) fnLogic_row_tie rfl ⟨rfl, rfl⟩ (by as_aux_lemma => kernel_rfl) rfl
  (fun f fn hf hfn => by
   obtain rfl : f = 3 := oInj ((show Tryz.prog.funcNamed Rows.fnLogicRow.func = some 3 by as_aux_lemma => kernel_rfl).symm.trans hf) |>.symm
   obtain rfl : fn = Tryz.f3 := (oInj (Tryz.func3.symm.trans hfn)).symm
   exact ⟨by as_aux_lemma => kernel_rfl, fun j t ht => by
    rw [Tryz.params3] at ht
    have hb : [22].all (fun t => !Tryz.prog.wantsStandIn t) = true := by as_aux_lemma => kernel_rfl
    have hm : t ∈ [22] := by
     have := List.mem_of_getElem? (l := [22]) (i := j) (by simpa using ht)
     exact this
    have hq := List.all_eq_true.1 hb t hm
    rw [Bool.not_eq_true'] at hq
    exact hq⟩)
  (by as_aux_lemma => kernel_rfl)
end Go.Proofs.YtjaaacbiaimdlaaGreatDoor

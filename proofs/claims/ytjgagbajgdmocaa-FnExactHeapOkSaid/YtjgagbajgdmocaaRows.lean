/-
  NARROWER THAN 'FOR EVERY INPUT', by the rows' own cells (each row's printed sentence says how): FnExactAliveAt: loops · FnExactItemsOf: loops · FnExactListTerm: loops.
  DERIVED. THE GIVEN ROWS OF THIS SEAT. 6 by the template 'for every input the law returns true; each argument reads behind the call as it read before'; 0 by the template 'total and deterministic' (their statements: YtjgagbajgdmocaaTotals.lean).
  GIVEN WITH THE SEED: the statements are not yours to turn. If you find one false, say at which input.
  Laid BY PROGRAM, IN A SANDBOX (cutbox-rows.mjs): the forced cells as the released guide's own fill.sh prints them over the translation 8499f8b855b9c782… (all of the seat's roots in one cut). By AI agents, Wed Nov 11 2026. No macro, syntax, notation, axiom, sorry.
-/
import Derived.Test.YtjgagbajgdmocaaChecked
import GoSem.Claim
import GoSem.ClaimJoined
import GoSem.ClaimMapViews
import Derived.JoinedTies
import Derived.KernelRfl
namespace Go.Proofs.Ytjgagbajgdmocaa
/- THE CELL 'sum', in the pinned program and in every row, IS THE sha256 OF THE DUMP (.gsa) THAT YtjgagbajgdmocaaProg.lean LOADS. Nothing in Lean hashes anything: it is a label: what it is worth is what the hold of that sum in a sandbox is worth. -/
noncomputable def Try.pinned : Pinned := { name := "ytjgagbajgdmocaa", sum := "8499f8b855b9c7828343ecfdae1d65425b027dfe55c50dbb0abbdb371c16384f", checked := Try.checked }
namespace Rows
def none {H : Type} : Left H := { results := [], args := [] }

/-- 'laws.FnExactHeapOk': WHATEVER THE INPUT: true; the input reads as it did. -/
def fnExactHeapOkSpec : ChangeSpec := { name := "fnExactHeapOk", fn := fun _ => fun
  | [d] => { results := [.lit (.bool true)], args := [d] }
  | _ => none }
def fnExactHeapOkRow : OpenClaim := { program := "ytjgagbajgdmocaa", sum := "8499f8b855b9c7828343ecfdae1d65425b027dfe55c50dbb0abbdb371c16384f", func := "loop.example/g00469/laws.FnExactHeapOk", spec := "fnExactHeapOk", apart := false }
def FnExactHeapOkSaid : Prop := fnExactHeapOkRow.holds Try.pinned (OpenSpec.ofChange fnExactHeapOkSpec)

/-- ITS FALSE NEIGHBOUR: 'it returns false'. Refute it at one input. -/
def fnExactHeapOkWrong : ChangeSpec := { name := "fnExactHeapOk", fn := fun _ => fun
  | [d] => { results := [.lit (.bool false)], args := [d] }
  | _ => none }
def FnExactHeapOkWrongFalsely : Prop := fnExactHeapOkRow.holds Try.pinned (OpenSpec.ofChange fnExactHeapOkWrong)

/-- 'laws.FnExactRuleTerm': WHATEVER THE INPUT: true; the input reads as it did. -/
def fnExactRuleTermSpec : ChangeSpec := { name := "fnExactRuleTerm", fn := fun _ => fun
  | [d] => { results := [.lit (.bool true)], args := [d] }
  | _ => none }
def fnExactRuleTermRow : OpenClaim := { program := "ytjgagbajgdmocaa", sum := "8499f8b855b9c7828343ecfdae1d65425b027dfe55c50dbb0abbdb371c16384f", func := "loop.example/g00469/laws.FnExactRuleTerm", spec := "fnExactRuleTerm", recurses := true, apart := false }
def FnExactRuleTermSaid : Prop := fnExactRuleTermRow.holds Try.pinned (OpenSpec.ofChange fnExactRuleTermSpec)

/-- ITS FALSE NEIGHBOUR: 'it returns false'. Refute it at one input. -/
def fnExactRuleTermWrong : ChangeSpec := { name := "fnExactRuleTerm", fn := fun _ => fun
  | [d] => { results := [.lit (.bool false)], args := [d] }
  | _ => none }
def FnExactRuleTermWrongFalsely : Prop := fnExactRuleTermRow.holds Try.pinned (OpenSpec.ofChange fnExactRuleTermWrong)

/-- 'laws.FnExactAliveAt': WHATEVER THE INPUT: true; the input reads as it did. -/
def fnExactAliveAtSpec : ChangeSpec := { name := "fnExactAliveAt", fn := fun _ => fun
  | [d1, d2] => { results := [.lit (.bool true)], args := [d1, d2] }
  | _ => none }
def fnExactAliveAtRow : OpenClaim := { program := "ytjgagbajgdmocaa", sum := "8499f8b855b9c7828343ecfdae1d65425b027dfe55c50dbb0abbdb371c16384f", func := "loop.example/g00469/laws.FnExactAliveAt", spec := "fnExactAliveAt", recurses := true, loops := true, apart := false }
def FnExactAliveAtSaid : Prop := fnExactAliveAtRow.holds Try.pinned (OpenSpec.ofChange fnExactAliveAtSpec)

/-- ITS FALSE NEIGHBOUR: 'it returns false'. Refute it at one input. -/
def fnExactAliveAtWrong : ChangeSpec := { name := "fnExactAliveAt", fn := fun _ => fun
  | [d1, d2] => { results := [.lit (.bool false)], args := [d1, d2] }
  | _ => none }
def FnExactAliveAtWrongFalsely : Prop := fnExactAliveAtRow.holds Try.pinned (OpenSpec.ofChange fnExactAliveAtWrong)

/-- 'laws.FnExactRulesOk': WHATEVER THE INPUT: true; the input reads as it did. -/
def fnExactRulesOkSpec : ChangeSpec := { name := "fnExactRulesOk", fn := fun _ => fun
  | [d] => { results := [.lit (.bool true)], args := [d] }
  | _ => none }
def fnExactRulesOkRow : OpenClaim := { program := "ytjgagbajgdmocaa", sum := "8499f8b855b9c7828343ecfdae1d65425b027dfe55c50dbb0abbdb371c16384f", func := "loop.example/g00469/laws.FnExactRulesOk", spec := "fnExactRulesOk", unfollowed := true, recurses := true, apart := false }
def FnExactRulesOkSaid : Prop := fnExactRulesOkRow.holds Try.pinned (OpenSpec.ofChange fnExactRulesOkSpec)

/-- ITS FALSE NEIGHBOUR: 'it returns false'. Refute it at one input. -/
def fnExactRulesOkWrong : ChangeSpec := { name := "fnExactRulesOk", fn := fun _ => fun
  | [d] => { results := [.lit (.bool false)], args := [d] }
  | _ => none }
def FnExactRulesOkWrongFalsely : Prop := fnExactRulesOkRow.holds Try.pinned (OpenSpec.ofChange fnExactRulesOkWrong)

/-- 'laws.FnExactItemsOf': WHATEVER THE INPUT: true; the input reads as it did. -/
def fnExactItemsOfSpec : ChangeSpec := { name := "fnExactItemsOf", fn := fun _ => fun
  | [d] => { results := [.lit (.bool true)], args := [d] }
  | _ => none }
def fnExactItemsOfRow : OpenClaim := { program := "ytjgagbajgdmocaa", sum := "8499f8b855b9c7828343ecfdae1d65425b027dfe55c50dbb0abbdb371c16384f", func := "loop.example/g00469/laws.FnExactItemsOf", spec := "fnExactItemsOf", unfollowed := true, recurses := true, loops := true, apart := false }
def FnExactItemsOfSaid : Prop := fnExactItemsOfRow.holds Try.pinned (OpenSpec.ofChange fnExactItemsOfSpec)

/-- ITS FALSE NEIGHBOUR: 'it returns false'. Refute it at one input. -/
def fnExactItemsOfWrong : ChangeSpec := { name := "fnExactItemsOf", fn := fun _ => fun
  | [d] => { results := [.lit (.bool false)], args := [d] }
  | _ => none }
def FnExactItemsOfWrongFalsely : Prop := fnExactItemsOfRow.holds Try.pinned (OpenSpec.ofChange fnExactItemsOfWrong)

/-- 'laws.FnExactListTerm': WHATEVER THE INPUT: true; the input reads as it did. -/
def fnExactListTermSpec : ChangeSpec := { name := "fnExactListTerm", fn := fun _ => fun
  | [d] => { results := [.lit (.bool true)], args := [d] }
  | _ => none }
def fnExactListTermRow : OpenClaim := { program := "ytjgagbajgdmocaa", sum := "8499f8b855b9c7828343ecfdae1d65425b027dfe55c50dbb0abbdb371c16384f", func := "loop.example/g00469/laws.FnExactListTerm", spec := "fnExactListTerm", unfollowed := true, recurses := true, loops := true, apart := false }
def FnExactListTermSaid : Prop := fnExactListTermRow.holds Try.pinned (OpenSpec.ofChange fnExactListTermSpec)

/-- ITS FALSE NEIGHBOUR: 'it returns false'. Refute it at one input. -/
def fnExactListTermWrong : ChangeSpec := { name := "fnExactListTerm", fn := fun _ => fun
  | [d] => { results := [.lit (.bool false)], args := [d] }
  | _ => none }
def FnExactListTermWrongFalsely : Prop := fnExactListTermRow.holds Try.pinned (OpenSpec.ofChange fnExactListTermWrong)

/- THE SECOND FORM. 'bulk': how many values and letters a reading holds, each counted each time it is reached (what is shared counts as often as it is met; a slice's spare places count too). A statement '..UptoSaid' is the law's where the arguments, and the package variables that the reading takes, are together of bulk at most 1048576: NARROWER than '..Said'. Prove '..Said' where nothing that the law and all that it calls make is longer than what came in: it says more and counts as full. Else prove '..UptoSaid'. A law counts once. -/
mutual
def uptoBulk {H : Type} : DataW H → Nat
  | .lit (.string bytes) => bytes.length + 1
  | .lit _ => 1
  | .nil => 1
  | .ptr d => uptoBulk d + 1
  | .slice elems spare => uptoBulkAll elems + uptoBulkAll spare + 1
  | .agg parts => uptoBulkAll parts + 1
  | .iface _ d => uptoBulk d + 1
  | .map entries => uptoBulkEntries entries + 1
  | .held _ => 1
def uptoBulkAll {H : Type} : List (DataW H) → Nat
  | [] => 0
  | d :: r => uptoBulk d + uptoBulkAll r
def uptoBulkEntries {H : Type} : List (Lit × DataW H) → Nat
  | [] => 0
  | x :: r => uptoBulkEntry x + uptoBulkEntries r
def uptoBulkEntry {H : Type} : Lit × DataW H → Nat
  | (.string bytes, d) => bytes.length + uptoBulk d + 1
  | (_, d) => uptoBulk d + 1
 end
def uptoSmall : (H : Type) → List (DataW H) → Bool := fun _ ds => decide (uptoBulkAll ds ≤ 1048576)
def OpenSpec.upto (s : _root_.Go.ChangeSpec) : _root_.Go.OpenSpec := { _root_.Go.OpenSpec.ofChange s with cond := some uptoSmall }

/-- 'laws.FnExactHeapOk', WHERE WHAT IT READS IS OF BULK AT MOST 1048576: true; the input reads as it did. -/
def fnExactHeapOkUptoRow : OpenClaim := { program := "ytjgagbajgdmocaa", sum := "8499f8b855b9c7828343ecfdae1d65425b027dfe55c50dbb0abbdb371c16384f", func := "loop.example/g00469/laws.FnExactHeapOk", spec := "fnExactHeapOk", apart := false, narrowed := true }
def FnExactHeapOkUptoSaid : Prop := fnExactHeapOkUptoRow.holds Try.pinned (OpenSpec.upto fnExactHeapOkSpec)

/-- 'laws.FnExactRuleTerm', WHERE WHAT IT READS IS OF BULK AT MOST 1048576: true; the input reads as it did. -/
def fnExactRuleTermUptoRow : OpenClaim := { program := "ytjgagbajgdmocaa", sum := "8499f8b855b9c7828343ecfdae1d65425b027dfe55c50dbb0abbdb371c16384f", func := "loop.example/g00469/laws.FnExactRuleTerm", spec := "fnExactRuleTerm", recurses := true, apart := false, narrowed := true }
def FnExactRuleTermUptoSaid : Prop := fnExactRuleTermUptoRow.holds Try.pinned (OpenSpec.upto fnExactRuleTermSpec)

/-- 'laws.FnExactAliveAt', WHERE WHAT IT READS IS OF BULK AT MOST 1048576: true; the input reads as it did. -/
def fnExactAliveAtUptoRow : OpenClaim := { program := "ytjgagbajgdmocaa", sum := "8499f8b855b9c7828343ecfdae1d65425b027dfe55c50dbb0abbdb371c16384f", func := "loop.example/g00469/laws.FnExactAliveAt", spec := "fnExactAliveAt", recurses := true, loops := true, apart := false, narrowed := true }
def FnExactAliveAtUptoSaid : Prop := fnExactAliveAtUptoRow.holds Try.pinned (OpenSpec.upto fnExactAliveAtSpec)

/-- 'laws.FnExactRulesOk', WHERE WHAT IT READS IS OF BULK AT MOST 1048576: true; the input reads as it did. -/
def fnExactRulesOkUptoRow : OpenClaim := { program := "ytjgagbajgdmocaa", sum := "8499f8b855b9c7828343ecfdae1d65425b027dfe55c50dbb0abbdb371c16384f", func := "loop.example/g00469/laws.FnExactRulesOk", spec := "fnExactRulesOk", unfollowed := true, recurses := true, apart := false, narrowed := true }
def FnExactRulesOkUptoSaid : Prop := fnExactRulesOkUptoRow.holds Try.pinned (OpenSpec.upto fnExactRulesOkSpec)

/-- 'laws.FnExactItemsOf', WHERE WHAT IT READS IS OF BULK AT MOST 1048576: true; the input reads as it did. -/
def fnExactItemsOfUptoRow : OpenClaim := { program := "ytjgagbajgdmocaa", sum := "8499f8b855b9c7828343ecfdae1d65425b027dfe55c50dbb0abbdb371c16384f", func := "loop.example/g00469/laws.FnExactItemsOf", spec := "fnExactItemsOf", unfollowed := true, recurses := true, loops := true, apart := false, narrowed := true }
def FnExactItemsOfUptoSaid : Prop := fnExactItemsOfUptoRow.holds Try.pinned (OpenSpec.upto fnExactItemsOfSpec)

/-- 'laws.FnExactListTerm', WHERE WHAT IT READS IS OF BULK AT MOST 1048576: true; the input reads as it did. -/
def fnExactListTermUptoRow : OpenClaim := { program := "ytjgagbajgdmocaa", sum := "8499f8b855b9c7828343ecfdae1d65425b027dfe55c50dbb0abbdb371c16384f", func := "loop.example/g00469/laws.FnExactListTerm", spec := "fnExactListTerm", unfollowed := true, recurses := true, loops := true, apart := false, narrowed := true }
def FnExactListTermUptoSaid : Prop := fnExactListTermUptoRow.holds Try.pinned (OpenSpec.upto fnExactListTermSpec)

end Rows
end Go.Proofs.Ytjgagbajgdmocaa

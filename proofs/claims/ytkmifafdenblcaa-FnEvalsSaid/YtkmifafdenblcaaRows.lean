/-
  NARROWER THAN 'FOR EVERY INPUT', by the rows' own cells (each row's printed sentence says how): FnExactWiped: loops.
  DERIVED. THE GIVEN ROWS OF THIS SEAT. 3 by the template 'for every input the law returns true; each argument reads behind the call as it read before'; 0 by the template 'total and deterministic' (their statements: YtkmifafdenblcaaTotals.lean).
  GIVEN WITH THE SEED: the statements are not yours to turn. If you find one false, say at which input.
  Laid BY PROGRAM, IN A SANDBOX (cutbox-rows.mjs): the forced cells as the released guide's own fill.sh prints them over the translation a857f23662b9741b… (all of the seat's roots in one cut). By AI agents, Wed Nov 11 2026. No macro, syntax, notation, axiom, sorry.
-/
import Derived.Test.YtkmifafdenblcaaChecked
import GoSem.Claim
import GoSem.ClaimJoined
import GoSem.ClaimMapViews
import Derived.JoinedTies
import Derived.KernelRfl
namespace Go.Proofs.Ytkmifafdenblcaa
/- THE CELL 'sum', in the pinned program and in every row, IS THE sha256 OF THE DUMP (.gsa) THAT YtkmifafdenblcaaProg.lean LOADS. Nothing in Lean hashes anything: it is a label: what it is worth is what the hold of that sum in a sandbox is worth. -/
noncomputable def Try.pinned : Pinned := { name := "ytkmifafdenblcaa", sum := "a857f23662b9741bcd8f43b260d0c8b838f551edb1483085efb3bab7ad332214", checked := Try.checked }
namespace Rows
def none {H : Type} : Left H := { results := [], args := [] }

/-- 'laws.FnExactWiped': WHATEVER THE INPUT: true; the input reads as it did. -/
def fnExactWipedSpec : ChangeSpec := { name := "fnExactWiped", fn := fun _ => fun
  | [d1, d2] => { results := [.lit (.bool true)], args := [d1, d2] }
  | _ => none }
def fnExactWipedRow : OpenClaim := { program := "ytkmifafdenblcaa", sum := "a857f23662b9741bcd8f43b260d0c8b838f551edb1483085efb3bab7ad332214", func := "loop.example/g00469/laws.FnExactWiped", spec := "fnExactWiped", unfollowed := true, recurses := true, loops := true, apart := false }
def FnExactWipedSaid : Prop := fnExactWipedRow.holds Try.pinned (OpenSpec.ofChange fnExactWipedSpec)

/-- ITS FALSE NEIGHBOUR: 'it returns false'. Refute it at one input. -/
def fnExactWipedWrong : ChangeSpec := { name := "fnExactWiped", fn := fun _ => fun
  | [d1, d2] => { results := [.lit (.bool false)], args := [d1, d2] }
  | _ => none }
def FnExactWipedWrongFalsely : Prop := fnExactWipedRow.holds Try.pinned (OpenSpec.ofChange fnExactWipedWrong)

/-- 'laws.FnEvals': WHATEVER THE INPUT: true; the input reads as it did. -/
def fnEvalsSpec : ChangeSpec := { name := "fnEvals", fn := fun _ => fun
  | [d] => { results := [.lit (.bool true)], args := [d] }
  | _ => none }
def fnEvalsRow : OpenClaim := { program := "ytkmifafdenblcaa", sum := "a857f23662b9741bcd8f43b260d0c8b838f551edb1483085efb3bab7ad332214", func := "loop.example/g00469/laws.FnEvals", spec := "fnEvals", recurses := true, apart := false }
def FnEvalsSaid : Prop := fnEvalsRow.holds Try.pinned (OpenSpec.ofChange fnEvalsSpec)

/-- ITS FALSE NEIGHBOUR: 'it returns false'. Refute it at one input. -/
def fnEvalsWrong : ChangeSpec := { name := "fnEvals", fn := fun _ => fun
  | [d] => { results := [.lit (.bool false)], args := [d] }
  | _ => none }
def FnEvalsWrongFalsely : Prop := fnEvalsRow.holds Try.pinned (OpenSpec.ofChange fnEvalsWrong)

/-- 'laws.FnUnifiesMost': WHATEVER THE INPUT: true; the input reads as it did. -/
def fnUnifiesMostSpec : ChangeSpec := { name := "fnUnifiesMost", fn := fun _ => fun
  | [d] => { results := [.lit (.bool true)], args := [d] }
  | _ => none }
def fnUnifiesMostRow : OpenClaim := { program := "ytkmifafdenblcaa", sum := "a857f23662b9741bcd8f43b260d0c8b838f551edb1483085efb3bab7ad332214", func := "loop.example/g00469/laws.FnUnifiesMost", spec := "fnUnifiesMost", unfollowed := true, recurses := true, apart := false }
def FnUnifiesMostSaid : Prop := fnUnifiesMostRow.holds Try.pinned (OpenSpec.ofChange fnUnifiesMostSpec)

/-- ITS FALSE NEIGHBOUR: 'it returns false'. Refute it at one input. -/
def fnUnifiesMostWrong : ChangeSpec := { name := "fnUnifiesMost", fn := fun _ => fun
  | [d] => { results := [.lit (.bool false)], args := [d] }
  | _ => none }
def FnUnifiesMostWrongFalsely : Prop := fnUnifiesMostRow.holds Try.pinned (OpenSpec.ofChange fnUnifiesMostWrong)

/- THE SECOND FORM. 'bulk': how many values and letters a reading holds, each counted each time it is reached (what is shared counts as often as it is met; a slice's spare places count too). A statement '..UptoSaid' is the law's where the arguments, and the package variables that the reading takes, are together of bulk at most 1048576: NARROWER than '..Said'. Prove '..Said' where nothing that the law and all that it calls make is longer than what came in: it says more and counts as full. Else prove '..UptoSaid'. A law counts once. -/
mutual
def uptoBulk {H : Type} : DataW H → Nat
  | .lit (.string bytes) => bytes.length + 1
  | .lit _ => 1
  | .nil => 1
  | .ptr d => uptoBulk d + 1
  | .slice elems spare => uptoBulkAll elems + uptoBulkAll spare + 1
  | .agg parts => uptoBulkAll parts + 1
  | .iface _ d => uptoBulk d + 1
  | .map entries => uptoBulkEntries entries + 1
  | .held _ => 1
def uptoBulkAll {H : Type} : List (DataW H) → Nat
  | [] => 0
  | d :: r => uptoBulk d + uptoBulkAll r
def uptoBulkEntries {H : Type} : List (Lit × DataW H) → Nat
  | [] => 0
  | x :: r => uptoBulkEntry x + uptoBulkEntries r
def uptoBulkEntry {H : Type} : Lit × DataW H → Nat
  | (.string bytes, d) => bytes.length + uptoBulk d + 1
  | (_, d) => uptoBulk d + 1
 end
def uptoSmall : (H : Type) → List (DataW H) → Bool := fun _ ds => decide (uptoBulkAll ds ≤ 1048576)
def OpenSpec.upto (s : _root_.Go.ChangeSpec) : _root_.Go.OpenSpec := { _root_.Go.OpenSpec.ofChange s with cond := some uptoSmall }

/-- 'laws.FnExactWiped', WHERE WHAT IT READS IS OF BULK AT MOST 1048576: true; the input reads as it did. -/
def fnExactWipedUptoRow : OpenClaim := { program := "ytkmifafdenblcaa", sum := "a857f23662b9741bcd8f43b260d0c8b838f551edb1483085efb3bab7ad332214", func := "loop.example/g00469/laws.FnExactWiped", spec := "fnExactWiped", unfollowed := true, recurses := true, loops := true, apart := false, narrowed := true }
def FnExactWipedUptoSaid : Prop := fnExactWipedUptoRow.holds Try.pinned (OpenSpec.upto fnExactWipedSpec)

/-- 'laws.FnEvals', WHERE WHAT IT READS IS OF BULK AT MOST 1048576: true; the input reads as it did. -/
def fnEvalsUptoRow : OpenClaim := { program := "ytkmifafdenblcaa", sum := "a857f23662b9741bcd8f43b260d0c8b838f551edb1483085efb3bab7ad332214", func := "loop.example/g00469/laws.FnEvals", spec := "fnEvals", recurses := true, apart := false, narrowed := true }
def FnEvalsUptoSaid : Prop := fnEvalsUptoRow.holds Try.pinned (OpenSpec.upto fnEvalsSpec)

/-- 'laws.FnUnifiesMost', WHERE WHAT IT READS IS OF BULK AT MOST 1048576: true; the input reads as it did. -/
def fnUnifiesMostUptoRow : OpenClaim := { program := "ytkmifafdenblcaa", sum := "a857f23662b9741bcd8f43b260d0c8b838f551edb1483085efb3bab7ad332214", func := "loop.example/g00469/laws.FnUnifiesMost", spec := "fnUnifiesMost", unfollowed := true, recurses := true, apart := false, narrowed := true }
def FnUnifiesMostUptoSaid : Prop := fnUnifiesMostUptoRow.holds Try.pinned (OpenSpec.upto fnUnifiesMostSpec)

end Rows
end Go.Proofs.Ytkmifafdenblcaa

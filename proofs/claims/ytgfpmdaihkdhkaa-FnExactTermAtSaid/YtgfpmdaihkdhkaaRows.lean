/-
  NARROWER THAN 'FOR EVERY INPUT', by the rows' own cells (each row's printed sentence says how): FnExactWiped: loops · FnExactCodeOf: loops · FnExactPutTerm: loops · FnExactDbOf: loops · FnExactStoreOf: loops.
  DERIVED. THE GIVEN ROWS OF THIS SEAT. 6 by the template 'for every input the law returns true; each argument reads behind the call as it read before'; 0 by the template 'total and deterministic' (their statements: YtgfpmdaihkdhkaaTotals.lean).
  GIVEN WITH THE SEED: the statements are not yours to turn. If you find one false, say at which input.
  Laid BY PROGRAM, IN A SANDBOX (cutbox-rows.mjs): the forced cells as the released guide's own fill.sh prints them over the translation 23ffab115fbc483f… (all of the seat's roots in one cut). By AI agents, Wed Nov 11 2026. No macro, syntax, notation, axiom, sorry.
-/
import Derived.Test.YtgfpmdaihkdhkaaChecked
import GoSem.Claim
import GoSem.ClaimJoined
import GoSem.ClaimMapViews
import Derived.JoinedTies
import Derived.KernelRfl
namespace Go.Proofs.Ytgfpmdaihkdhkaa
/- THE CELL 'sum', in the pinned program and in every row, IS THE sha256 OF THE DUMP (.gsa) THAT YtgfpmdaihkdhkaaProg.lean LOADS. Nothing in Lean hashes anything: it is a label: what it is worth is what the hold of that sum in a sandbox is worth. -/
noncomputable def Try.pinned : Pinned := { name := "ytgfpmdaihkdhkaa", sum := "23ffab115fbc483f1d7e660ce53f429abbf95815a9b195520e96c7e942fb4a4e", checked := Try.checked }
namespace Rows
def none {H : Type} : Left H := { results := [], args := [] }

/-- 'laws.FnExactWiped': WHATEVER THE INPUT: true; the input reads as it did. -/
def fnExactWipedSpec : ChangeSpec := { name := "fnExactWiped", fn := fun _ => fun
  | [d1, d2] => { results := [.lit (.bool true)], args := [d1, d2] }
  | _ => none }
def fnExactWipedRow : OpenClaim := { program := "ytgfpmdaihkdhkaa", sum := "23ffab115fbc483f1d7e660ce53f429abbf95815a9b195520e96c7e942fb4a4e", func := "loop.example/g00469/laws.FnExactWiped", spec := "fnExactWiped", unfollowed := true, recurses := true, loops := true, apart := false }
def FnExactWipedSaid : Prop := fnExactWipedRow.holds Try.pinned (OpenSpec.ofChange fnExactWipedSpec)

/-- ITS FALSE NEIGHBOUR: 'it returns false'. Refute it at one input. -/
def fnExactWipedWrong : ChangeSpec := { name := "fnExactWiped", fn := fun _ => fun
  | [d1, d2] => { results := [.lit (.bool false)], args := [d1, d2] }
  | _ => none }
def FnExactWipedWrongFalsely : Prop := fnExactWipedRow.holds Try.pinned (OpenSpec.ofChange fnExactWipedWrong)

/-- 'laws.FnExactTermAt': WHATEVER THE INPUT: true; the input reads as it did. -/
def fnExactTermAtSpec : ChangeSpec := { name := "fnExactTermAt", fn := fun _ => fun
  | [d1, d2] => { results := [.lit (.bool true)], args := [d1, d2] }
  | _ => none }
def fnExactTermAtRow : OpenClaim := { program := "ytgfpmdaihkdhkaa", sum := "23ffab115fbc483f1d7e660ce53f429abbf95815a9b195520e96c7e942fb4a4e", func := "loop.example/g00469/laws.FnExactTermAt", spec := "fnExactTermAt", recurses := true, apart := false }
def FnExactTermAtSaid : Prop := fnExactTermAtRow.holds Try.pinned (OpenSpec.ofChange fnExactTermAtSpec)

/-- ITS FALSE NEIGHBOUR: 'it returns false'. Refute it at one input. -/
def fnExactTermAtWrong : ChangeSpec := { name := "fnExactTermAt", fn := fun _ => fun
  | [d1, d2] => { results := [.lit (.bool false)], args := [d1, d2] }
  | _ => none }
def FnExactTermAtWrongFalsely : Prop := fnExactTermAtRow.holds Try.pinned (OpenSpec.ofChange fnExactTermAtWrong)

/-- 'laws.FnExactCodeOf': WHATEVER THE INPUT: true; the input reads as it did. -/
def fnExactCodeOfSpec : ChangeSpec := { name := "fnExactCodeOf", fn := fun _ => fun
  | [d] => { results := [.lit (.bool true)], args := [d] }
  | _ => none }
def fnExactCodeOfRow : OpenClaim := { program := "ytgfpmdaihkdhkaa", sum := "23ffab115fbc483f1d7e660ce53f429abbf95815a9b195520e96c7e942fb4a4e", func := "loop.example/g00469/laws.FnExactCodeOf", spec := "fnExactCodeOf", recurses := true, loops := true, apart := false }
def FnExactCodeOfSaid : Prop := fnExactCodeOfRow.holds Try.pinned (OpenSpec.ofChange fnExactCodeOfSpec)

/-- ITS FALSE NEIGHBOUR: 'it returns false'. Refute it at one input. -/
def fnExactCodeOfWrong : ChangeSpec := { name := "fnExactCodeOf", fn := fun _ => fun
  | [d] => { results := [.lit (.bool false)], args := [d] }
  | _ => none }
def FnExactCodeOfWrongFalsely : Prop := fnExactCodeOfRow.holds Try.pinned (OpenSpec.ofChange fnExactCodeOfWrong)

/-- 'laws.FnExactPutTerm': WHATEVER THE INPUT: true; the input reads as it did. -/
def fnExactPutTermSpec : ChangeSpec := { name := "fnExactPutTerm", fn := fun _ => fun
  | [d1, d2] => { results := [.lit (.bool true)], args := [d1, d2] }
  | _ => none }
def fnExactPutTermRow : OpenClaim := { program := "ytgfpmdaihkdhkaa", sum := "23ffab115fbc483f1d7e660ce53f429abbf95815a9b195520e96c7e942fb4a4e", func := "loop.example/g00469/laws.FnExactPutTerm", spec := "fnExactPutTerm", recurses := true, loops := true, apart := false }
def FnExactPutTermSaid : Prop := fnExactPutTermRow.holds Try.pinned (OpenSpec.ofChange fnExactPutTermSpec)

/-- ITS FALSE NEIGHBOUR: 'it returns false'. Refute it at one input. -/
def fnExactPutTermWrong : ChangeSpec := { name := "fnExactPutTerm", fn := fun _ => fun
  | [d1, d2] => { results := [.lit (.bool false)], args := [d1, d2] }
  | _ => none }
def FnExactPutTermWrongFalsely : Prop := fnExactPutTermRow.holds Try.pinned (OpenSpec.ofChange fnExactPutTermWrong)

/-- 'laws.FnExactDbOf': WHATEVER THE INPUT: true; the input reads as it did. -/
def fnExactDbOfSpec : ChangeSpec := { name := "fnExactDbOf", fn := fun _ => fun
  | [d] => { results := [.lit (.bool true)], args := [d] }
  | _ => none }
def fnExactDbOfRow : OpenClaim := { program := "ytgfpmdaihkdhkaa", sum := "23ffab115fbc483f1d7e660ce53f429abbf95815a9b195520e96c7e942fb4a4e", func := "loop.example/g00469/laws.FnExactDbOf", spec := "fnExactDbOf", unfollowed := true, recurses := true, loops := true, apart := false }
def FnExactDbOfSaid : Prop := fnExactDbOfRow.holds Try.pinned (OpenSpec.ofChange fnExactDbOfSpec)

/-- ITS FALSE NEIGHBOUR: 'it returns false'. Refute it at one input. -/
def fnExactDbOfWrong : ChangeSpec := { name := "fnExactDbOf", fn := fun _ => fun
  | [d] => { results := [.lit (.bool false)], args := [d] }
  | _ => none }
def FnExactDbOfWrongFalsely : Prop := fnExactDbOfRow.holds Try.pinned (OpenSpec.ofChange fnExactDbOfWrong)

/-- 'laws.FnExactStoreOf': WHATEVER THE INPUT: true; the input reads as it did. -/
def fnExactStoreOfSpec : ChangeSpec := { name := "fnExactStoreOf", fn := fun _ => fun
  | [d] => { results := [.lit (.bool true)], args := [d] }
  | _ => none }
def fnExactStoreOfRow : OpenClaim := { program := "ytgfpmdaihkdhkaa", sum := "23ffab115fbc483f1d7e660ce53f429abbf95815a9b195520e96c7e942fb4a4e", func := "loop.example/g00469/laws.FnExactStoreOf", spec := "fnExactStoreOf", unfollowed := true, recurses := true, loops := true, apart := false }
def FnExactStoreOfSaid : Prop := fnExactStoreOfRow.holds Try.pinned (OpenSpec.ofChange fnExactStoreOfSpec)

/-- ITS FALSE NEIGHBOUR: 'it returns false'. Refute it at one input. -/
def fnExactStoreOfWrong : ChangeSpec := { name := "fnExactStoreOf", fn := fun _ => fun
  | [d] => { results := [.lit (.bool false)], args := [d] }
  | _ => none }
def FnExactStoreOfWrongFalsely : Prop := fnExactStoreOfRow.holds Try.pinned (OpenSpec.ofChange fnExactStoreOfWrong)

/- THE SECOND FORM. 'bulk': how many values and letters a reading holds, each counted each time it is reached (what is shared counts as often as it is met; a slice's spare places count too). A statement '..UptoSaid' is the law's where the arguments, and the package variables that the reading takes, are together of bulk at most 1048576: NARROWER than '..Said'. Prove '..Said' where nothing that the law and all that it calls make is longer than what came in: it says more and counts as full. Else prove '..UptoSaid'. A law counts once. -/
mutual
def uptoBulk {H : Type} : DataW H → Nat
  | .lit (.string bytes) => bytes.length + 1
  | .lit _ => 1
  | .nil => 1
  | .ptr d => uptoBulk d + 1
  | .slice elems spare => uptoBulkAll elems + uptoBulkAll spare + 1
  | .agg parts => uptoBulkAll parts + 1
  | .iface _ d => uptoBulk d + 1
  | .map entries => uptoBulkEntries entries + 1
  | .held _ => 1
def uptoBulkAll {H : Type} : List (DataW H) → Nat
  | [] => 0
  | d :: r => uptoBulk d + uptoBulkAll r
def uptoBulkEntries {H : Type} : List (Lit × DataW H) → Nat
  | [] => 0
  | x :: r => uptoBulkEntry x + uptoBulkEntries r
def uptoBulkEntry {H : Type} : Lit × DataW H → Nat
  | (.string bytes, d) => bytes.length + uptoBulk d + 1
  | (_, d) => uptoBulk d + 1
 end
def uptoSmall : (H : Type) → List (DataW H) → Bool := fun _ ds => decide (uptoBulkAll ds ≤ 1048576)
def OpenSpec.upto (s : _root_.Go.ChangeSpec) : _root_.Go.OpenSpec := { _root_.Go.OpenSpec.ofChange s with cond := some uptoSmall }

/-- 'laws.FnExactWiped', WHERE WHAT IT READS IS OF BULK AT MOST 1048576: true; the input reads as it did. -/
def fnExactWipedUptoRow : OpenClaim := { program := "ytgfpmdaihkdhkaa", sum := "23ffab115fbc483f1d7e660ce53f429abbf95815a9b195520e96c7e942fb4a4e", func := "loop.example/g00469/laws.FnExactWiped", spec := "fnExactWiped", unfollowed := true, recurses := true, loops := true, apart := false, narrowed := true }
def FnExactWipedUptoSaid : Prop := fnExactWipedUptoRow.holds Try.pinned (OpenSpec.upto fnExactWipedSpec)

/-- 'laws.FnExactTermAt', WHERE WHAT IT READS IS OF BULK AT MOST 1048576: true; the input reads as it did. -/
def fnExactTermAtUptoRow : OpenClaim := { program := "ytgfpmdaihkdhkaa", sum := "23ffab115fbc483f1d7e660ce53f429abbf95815a9b195520e96c7e942fb4a4e", func := "loop.example/g00469/laws.FnExactTermAt", spec := "fnExactTermAt", recurses := true, apart := false, narrowed := true }
def FnExactTermAtUptoSaid : Prop := fnExactTermAtUptoRow.holds Try.pinned (OpenSpec.upto fnExactTermAtSpec)

/-- 'laws.FnExactCodeOf', WHERE WHAT IT READS IS OF BULK AT MOST 1048576: true; the input reads as it did. -/
def fnExactCodeOfUptoRow : OpenClaim := { program := "ytgfpmdaihkdhkaa", sum := "23ffab115fbc483f1d7e660ce53f429abbf95815a9b195520e96c7e942fb4a4e", func := "loop.example/g00469/laws.FnExactCodeOf", spec := "fnExactCodeOf", recurses := true, loops := true, apart := false, narrowed := true }
def FnExactCodeOfUptoSaid : Prop := fnExactCodeOfUptoRow.holds Try.pinned (OpenSpec.upto fnExactCodeOfSpec)

/-- 'laws.FnExactPutTerm', WHERE WHAT IT READS IS OF BULK AT MOST 1048576: true; the input reads as it did. -/
def fnExactPutTermUptoRow : OpenClaim := { program := "ytgfpmdaihkdhkaa", sum := "23ffab115fbc483f1d7e660ce53f429abbf95815a9b195520e96c7e942fb4a4e", func := "loop.example/g00469/laws.FnExactPutTerm", spec := "fnExactPutTerm", recurses := true, loops := true, apart := false, narrowed := true }
def FnExactPutTermUptoSaid : Prop := fnExactPutTermUptoRow.holds Try.pinned (OpenSpec.upto fnExactPutTermSpec)

/-- 'laws.FnExactDbOf', WHERE WHAT IT READS IS OF BULK AT MOST 1048576: true; the input reads as it did. -/
def fnExactDbOfUptoRow : OpenClaim := { program := "ytgfpmdaihkdhkaa", sum := "23ffab115fbc483f1d7e660ce53f429abbf95815a9b195520e96c7e942fb4a4e", func := "loop.example/g00469/laws.FnExactDbOf", spec := "fnExactDbOf", unfollowed := true, recurses := true, loops := true, apart := false, narrowed := true }
def FnExactDbOfUptoSaid : Prop := fnExactDbOfUptoRow.holds Try.pinned (OpenSpec.upto fnExactDbOfSpec)

/-- 'laws.FnExactStoreOf', WHERE WHAT IT READS IS OF BULK AT MOST 1048576: true; the input reads as it did. -/
def fnExactStoreOfUptoRow : OpenClaim := { program := "ytgfpmdaihkdhkaa", sum := "23ffab115fbc483f1d7e660ce53f429abbf95815a9b195520e96c7e942fb4a4e", func := "loop.example/g00469/laws.FnExactStoreOf", spec := "fnExactStoreOf", unfollowed := true, recurses := true, loops := true, apart := false, narrowed := true }
def FnExactStoreOfUptoSaid : Prop := fnExactStoreOfUptoRow.holds Try.pinned (OpenSpec.upto fnExactStoreOfSpec)

end Rows
end Go.Proofs.Ytgfpmdaihkdhkaa

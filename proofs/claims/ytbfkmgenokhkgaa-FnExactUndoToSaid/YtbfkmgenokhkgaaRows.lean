/-
  NARROWER THAN 'FOR EVERY INPUT', by the rows' own cells (each row's printed sentence says how): FnExactJoinedLists: loops · FnExactWordsOf: loops.
  DERIVED. THE GIVEN ROWS OF THIS SEAT. 6 by the template 'for every input the law returns true; each argument reads behind the call as it read before'; 0 by the template 'total and deterministic' (their statements: YtbfkmgenokhkgaaTotals.lean).
  GIVEN WITH THE SEED: the statements are not yours to turn. If you find one false, say at which input.
  Laid BY PROGRAM, IN A SANDBOX (cutbox-rows.mjs): the forced cells as the released guide's own fill.sh prints them over the translation ffdf84d806617555… (all of the seat's roots in one cut). By AI agents, Wed Nov 11 2026. No macro, syntax, notation, axiom, sorry.
-/
import Derived.Test.YtbfkmgenokhkgaaChecked
import GoSem.Claim
import GoSem.ClaimJoined
import GoSem.ClaimMapViews
import Derived.JoinedTies
import Derived.KernelRfl
namespace Go.Proofs.Ytbfkmgenokhkgaa
/- THE CELL 'sum', in the pinned program and in every row, IS THE sha256 OF THE DUMP (.gsa) THAT YtbfkmgenokhkgaaProg.lean LOADS. Nothing in Lean hashes anything: it is a label: what it is worth is what the hold of that sum in a sandbox is worth. -/
noncomputable def Try.pinned : Pinned := { name := "ytbfkmgenokhkgaa", sum := "ffdf84d806617555910c866663a7d3059b6a25d132080c0cf196dac5002b6746", checked := Try.checked }
namespace Rows
def none {H : Type} : Left H := { results := [], args := [] }

/-- 'laws.FnExactStored': WHATEVER THE INPUT: true; the input reads as it did. -/
def fnExactStoredSpec : ChangeSpec := { name := "fnExactStored", fn := fun _ => fun
  | [d1, d2, d3] => { results := [.lit (.bool true)], args := [d1, d2, d3] }
  | _ => none }
def fnExactStoredRow : OpenClaim := { program := "ytbfkmgenokhkgaa", sum := "ffdf84d806617555910c866663a7d3059b6a25d132080c0cf196dac5002b6746", func := "loop.example/g00469/laws.FnExactStored", spec := "fnExactStored", inPlace := ["slices.overlaps[loop.example/g00469/impl.File]"], unfollowed := true, recurses := true, apart := false }
def FnExactStoredSaid : Prop := fnExactStoredRow.holds Try.pinned (OpenSpec.ofChange fnExactStoredSpec)

/-- ITS FALSE NEIGHBOUR: 'it returns false'. Refute it at one input. -/
def fnExactStoredWrong : ChangeSpec := { name := "fnExactStored", fn := fun _ => fun
  | [d1, d2, d3] => { results := [.lit (.bool false)], args := [d1, d2, d3] }
  | _ => none }
def FnExactStoredWrongFalsely : Prop := fnExactStoredRow.holds Try.pinned (OpenSpec.ofChange fnExactStoredWrong)

/-- 'laws.FnExactJoinedLists': WHATEVER THE INPUT: true; the input reads as it did. -/
def fnExactJoinedListsSpec : ChangeSpec := { name := "fnExactJoinedLists", fn := fun _ => fun
  | [d1, d2] => { results := [.lit (.bool true)], args := [d1, d2] }
  | _ => none }
def fnExactJoinedListsRow : OpenClaim := { program := "ytbfkmgenokhkgaa", sum := "ffdf84d806617555910c866663a7d3059b6a25d132080c0cf196dac5002b6746", func := "loop.example/g00469/laws.FnExactJoinedLists", spec := "fnExactJoinedLists", unfollowed := true, recurses := true, loops := true, apart := false }
def FnExactJoinedListsSaid : Prop := fnExactJoinedListsRow.holds Try.pinned (OpenSpec.ofChange fnExactJoinedListsSpec)

/-- ITS FALSE NEIGHBOUR: 'it returns false'. Refute it at one input. -/
def fnExactJoinedListsWrong : ChangeSpec := { name := "fnExactJoinedLists", fn := fun _ => fun
  | [d1, d2] => { results := [.lit (.bool false)], args := [d1, d2] }
  | _ => none }
def FnExactJoinedListsWrongFalsely : Prop := fnExactJoinedListsRow.holds Try.pinned (OpenSpec.ofChange fnExactJoinedListsWrong)

/-- 'laws.FnExactTermOf': WHATEVER THE INPUT: true; the input reads as it did. -/
def fnExactTermOfSpec : ChangeSpec := { name := "fnExactTermOf", fn := fun _ => fun
  | [d] => { results := [.lit (.bool true)], args := [d] }
  | _ => none }
def fnExactTermOfRow : OpenClaim := { program := "ytbfkmgenokhkgaa", sum := "ffdf84d806617555910c866663a7d3059b6a25d132080c0cf196dac5002b6746", func := "loop.example/g00469/laws.FnExactTermOf", spec := "fnExactTermOf", recurses := true, apart := false }
def FnExactTermOfSaid : Prop := fnExactTermOfRow.holds Try.pinned (OpenSpec.ofChange fnExactTermOfSpec)

/-- ITS FALSE NEIGHBOUR: 'it returns false'. Refute it at one input. -/
def fnExactTermOfWrong : ChangeSpec := { name := "fnExactTermOf", fn := fun _ => fun
  | [d] => { results := [.lit (.bool false)], args := [d] }
  | _ => none }
def FnExactTermOfWrongFalsely : Prop := fnExactTermOfRow.holds Try.pinned (OpenSpec.ofChange fnExactTermOfWrong)

/-- 'laws.FnExactWordsOf': WHATEVER THE INPUT: true; the input reads as it did. -/
def fnExactWordsOfSpec : ChangeSpec := { name := "fnExactWordsOf", fn := fun _ => fun
  | [d1, d2] => { results := [.lit (.bool true)], args := [d1, d2] }
  | _ => none }
def fnExactWordsOfRow : OpenClaim := { program := "ytbfkmgenokhkgaa", sum := "ffdf84d806617555910c866663a7d3059b6a25d132080c0cf196dac5002b6746", func := "loop.example/g00469/laws.FnExactWordsOf", spec := "fnExactWordsOf", recurses := true, loops := true, apart := false }
def FnExactWordsOfSaid : Prop := fnExactWordsOfRow.holds Try.pinned (OpenSpec.ofChange fnExactWordsOfSpec)

/-- ITS FALSE NEIGHBOUR: 'it returns false'. Refute it at one input. -/
def fnExactWordsOfWrong : ChangeSpec := { name := "fnExactWordsOf", fn := fun _ => fun
  | [d1, d2] => { results := [.lit (.bool false)], args := [d1, d2] }
  | _ => none }
def FnExactWordsOfWrongFalsely : Prop := fnExactWordsOfRow.holds Try.pinned (OpenSpec.ofChange fnExactWordsOfWrong)

/-- 'laws.FnExactBindCell': WHATEVER THE INPUT: true; the input reads as it did. -/
def fnExactBindCellSpec : ChangeSpec := { name := "fnExactBindCell", fn := fun _ => fun
  | [d1, d2, d3] => { results := [.lit (.bool true)], args := [d1, d2, d3] }
  | _ => none }
def fnExactBindCellRow : OpenClaim := { program := "ytbfkmgenokhkgaa", sum := "ffdf84d806617555910c866663a7d3059b6a25d132080c0cf196dac5002b6746", func := "loop.example/g00469/laws.FnExactBindCell", spec := "fnExactBindCell", apart := false }
def FnExactBindCellSaid : Prop := fnExactBindCellRow.holds Try.pinned (OpenSpec.ofChange fnExactBindCellSpec)

/-- ITS FALSE NEIGHBOUR: 'it returns false'. Refute it at one input. -/
def fnExactBindCellWrong : ChangeSpec := { name := "fnExactBindCell", fn := fun _ => fun
  | [d1, d2, d3] => { results := [.lit (.bool false)], args := [d1, d2, d3] }
  | _ => none }
def FnExactBindCellWrongFalsely : Prop := fnExactBindCellRow.holds Try.pinned (OpenSpec.ofChange fnExactBindCellWrong)

/-- 'laws.FnExactUndoTo': WHATEVER THE INPUT: true; the input reads as it did. -/
def fnExactUndoToSpec : ChangeSpec := { name := "fnExactUndoTo", fn := fun _ => fun
  | [d1, d2, d3] => { results := [.lit (.bool true)], args := [d1, d2, d3] }
  | _ => none }
def fnExactUndoToRow : OpenClaim := { program := "ytbfkmgenokhkgaa", sum := "ffdf84d806617555910c866663a7d3059b6a25d132080c0cf196dac5002b6746", func := "loop.example/g00469/laws.FnExactUndoTo", spec := "fnExactUndoTo", apart := false }
def FnExactUndoToSaid : Prop := fnExactUndoToRow.holds Try.pinned (OpenSpec.ofChange fnExactUndoToSpec)

/-- ITS FALSE NEIGHBOUR: 'it returns false'. Refute it at one input. -/
def fnExactUndoToWrong : ChangeSpec := { name := "fnExactUndoTo", fn := fun _ => fun
  | [d1, d2, d3] => { results := [.lit (.bool false)], args := [d1, d2, d3] }
  | _ => none }
def FnExactUndoToWrongFalsely : Prop := fnExactUndoToRow.holds Try.pinned (OpenSpec.ofChange fnExactUndoToWrong)

/- THE SECOND FORM. 'bulk': how many values and letters a reading holds, each counted each time it is reached (what is shared counts as often as it is met; a slice's spare places count too). A statement '..UptoSaid' is the law's where the arguments, and the package variables that the reading takes, are together of bulk at most 1048576: NARROWER than '..Said'. Prove '..Said' where nothing that the law and all that it calls make is longer than what came in: it says more and counts as full. Else prove '..UptoSaid'. A law counts once. -/
mutual
def uptoBulk {H : Type} : DataW H → Nat
  | .lit (.string bytes) => bytes.length + 1
  | .lit _ => 1
  | .nil => 1
  | .ptr d => uptoBulk d + 1
  | .slice elems spare => uptoBulkAll elems + uptoBulkAll spare + 1
  | .agg parts => uptoBulkAll parts + 1
  | .iface _ d => uptoBulk d + 1
  | .map entries => uptoBulkEntries entries + 1
  | .held _ => 1
def uptoBulkAll {H : Type} : List (DataW H) → Nat
  | [] => 0
  | d :: r => uptoBulk d + uptoBulkAll r
def uptoBulkEntries {H : Type} : List (Lit × DataW H) → Nat
  | [] => 0
  | x :: r => uptoBulkEntry x + uptoBulkEntries r
def uptoBulkEntry {H : Type} : Lit × DataW H → Nat
  | (.string bytes, d) => bytes.length + uptoBulk d + 1
  | (_, d) => uptoBulk d + 1
 end
def uptoSmall : (H : Type) → List (DataW H) → Bool := fun _ ds => decide (uptoBulkAll ds ≤ 1048576)
def OpenSpec.upto (s : _root_.Go.ChangeSpec) : _root_.Go.OpenSpec := { _root_.Go.OpenSpec.ofChange s with cond := some uptoSmall }

/-- 'laws.FnExactStored', WHERE WHAT IT READS IS OF BULK AT MOST 1048576: true; the input reads as it did. -/
def fnExactStoredUptoRow : OpenClaim := { program := "ytbfkmgenokhkgaa", sum := "ffdf84d806617555910c866663a7d3059b6a25d132080c0cf196dac5002b6746", func := "loop.example/g00469/laws.FnExactStored", spec := "fnExactStored", inPlace := ["slices.overlaps[loop.example/g00469/impl.File]"], unfollowed := true, recurses := true, apart := false, narrowed := true }
def FnExactStoredUptoSaid : Prop := fnExactStoredUptoRow.holds Try.pinned (OpenSpec.upto fnExactStoredSpec)

/-- 'laws.FnExactJoinedLists', WHERE WHAT IT READS IS OF BULK AT MOST 1048576: true; the input reads as it did. -/
def fnExactJoinedListsUptoRow : OpenClaim := { program := "ytbfkmgenokhkgaa", sum := "ffdf84d806617555910c866663a7d3059b6a25d132080c0cf196dac5002b6746", func := "loop.example/g00469/laws.FnExactJoinedLists", spec := "fnExactJoinedLists", unfollowed := true, recurses := true, loops := true, apart := false, narrowed := true }
def FnExactJoinedListsUptoSaid : Prop := fnExactJoinedListsUptoRow.holds Try.pinned (OpenSpec.upto fnExactJoinedListsSpec)

/-- 'laws.FnExactTermOf', WHERE WHAT IT READS IS OF BULK AT MOST 1048576: true; the input reads as it did. -/
def fnExactTermOfUptoRow : OpenClaim := { program := "ytbfkmgenokhkgaa", sum := "ffdf84d806617555910c866663a7d3059b6a25d132080c0cf196dac5002b6746", func := "loop.example/g00469/laws.FnExactTermOf", spec := "fnExactTermOf", recurses := true, apart := false, narrowed := true }
def FnExactTermOfUptoSaid : Prop := fnExactTermOfUptoRow.holds Try.pinned (OpenSpec.upto fnExactTermOfSpec)

/-- 'laws.FnExactWordsOf', WHERE WHAT IT READS IS OF BULK AT MOST 1048576: true; the input reads as it did. -/
def fnExactWordsOfUptoRow : OpenClaim := { program := "ytbfkmgenokhkgaa", sum := "ffdf84d806617555910c866663a7d3059b6a25d132080c0cf196dac5002b6746", func := "loop.example/g00469/laws.FnExactWordsOf", spec := "fnExactWordsOf", recurses := true, loops := true, apart := false, narrowed := true }
def FnExactWordsOfUptoSaid : Prop := fnExactWordsOfUptoRow.holds Try.pinned (OpenSpec.upto fnExactWordsOfSpec)

/-- 'laws.FnExactBindCell', WHERE WHAT IT READS IS OF BULK AT MOST 1048576: true; the input reads as it did. -/
def fnExactBindCellUptoRow : OpenClaim := { program := "ytbfkmgenokhkgaa", sum := "ffdf84d806617555910c866663a7d3059b6a25d132080c0cf196dac5002b6746", func := "loop.example/g00469/laws.FnExactBindCell", spec := "fnExactBindCell", apart := false, narrowed := true }
def FnExactBindCellUptoSaid : Prop := fnExactBindCellUptoRow.holds Try.pinned (OpenSpec.upto fnExactBindCellSpec)

/-- 'laws.FnExactUndoTo', WHERE WHAT IT READS IS OF BULK AT MOST 1048576: true; the input reads as it did. -/
def fnExactUndoToUptoRow : OpenClaim := { program := "ytbfkmgenokhkgaa", sum := "ffdf84d806617555910c866663a7d3059b6a25d132080c0cf196dac5002b6746", func := "loop.example/g00469/laws.FnExactUndoTo", spec := "fnExactUndoTo", apart := false, narrowed := true }
def FnExactUndoToUptoSaid : Prop := fnExactUndoToUptoRow.holds Try.pinned (OpenSpec.upto fnExactUndoToSpec)

end Rows
end Go.Proofs.Ytbfkmgenokhkgaa

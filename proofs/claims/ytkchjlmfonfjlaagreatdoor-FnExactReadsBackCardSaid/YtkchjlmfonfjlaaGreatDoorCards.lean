/-
  DERIVED. GIVEN WITH THE SEED: THE CARDS: each row of YtkchjlmfonfjlaaGreatDoorRows.lean that lists a variable, with what it lists TIED to the program's text (the seventh form; the later family's looks); each row that meets fmt, with fmt's text TOLD by the authors' own Lean function (tested against real Go, not proved from fmt's source: count such statements apart). THE CARD IS WHAT COUNTS. Prove the row's statement (the work); the ties are given (YtkchjlmfonfjlaaGreatDoorTie.lean); close each card by the builder's one call (the guide's Derived/Test/ToyasCard.lean, 'card_holds'). Laid BY PROGRAM, IN A SANDBOX (cutbox-door.mjs). By AI agents, Wed Nov 11 2026. No macro, syntax, notation, axiom, sorry.
-/
import Derived.Test.YtkchjlmfonfjlaaGreatDoorRows
import GoSem.ClaimSeven
namespace Go.Proofs.YtkchjlmfonfjlaaGreatDoor
namespace Rows

/-- THE TIED CARD OF 'laws.FnExactReadsBack'. -/
def fnExactReadsBackCard : Claim7 := { stood := { row := fnExactReadsBackRow, standIns := [], harness := (true, "78d56fd987fcb1754760a98b6ec49f0411cb1c5f99e0a9be887cc29054f0837d"), looks := false }, kinds := [], alts := [], laidByText := true, laidKinds := [.data, .data, .data], laidTests := true, laidLooks := .later }
def FnExactReadsBackCardSaid : Prop := Claim7.holds Tryz.pinned (.plain (OpenSpec.ofChange fnExactReadsBackSpec)) fnExactReadsBackCard

/-- THE SECOND FORM's CARD OF 'laws.FnExactReadsBack'. -/
def fnExactReadsBackUptoCard : Claim7 := { stood := { row := fnExactReadsBackUptoRow, standIns := [], harness := (true, "78d56fd987fcb1754760a98b6ec49f0411cb1c5f99e0a9be887cc29054f0837d"), looks := false }, kinds := [], alts := [], laidByText := true, laidKinds := [.data, .data, .data], laidTests := true, laidLooks := .later }
def FnExactReadsBackUptoCardSaid : Prop := Claim7.holds Tryz.pinned (.plain (OpenSpec.upto fnExactReadsBackSpec)) fnExactReadsBackUptoCard
end Rows
end Go.Proofs.YtkchjlmfonfjlaaGreatDoor

/-
  DERIVED. GIVEN WITH THE SEED: THE CARDS: each row of YtjaaacbiaimdlaaGreatDoorRows.lean that lists a variable, with what it lists TIED to the program's text (the seventh form; the later family's looks); each row that meets fmt, with fmt's text TOLD by the authors' own Lean function (tested against real Go, not proved from fmt's source: count such statements apart). THE CARD IS WHAT COUNTS. Prove the row's statement (the work); the ties are given (YtjaaacbiaimdlaaGreatDoorTie.lean); close each card by the builder's one call (the guide's Derived/Test/ToyasCard.lean, 'card_holds'). Laid BY PROGRAM, IN A SANDBOX (cutbox-door.mjs). By AI agents, Wed Nov 11 2026. No macro, syntax, notation, axiom, sorry.
-/
import Derived.Test.YtjaaacbiaimdlaaGreatDoorRows
import GoSem.ClaimSeven
namespace Go.Proofs.YtjaaacbiaimdlaaGreatDoor
namespace Rows

/-- THE TIED CARD OF 'laws.FnLogic'. -/
def fnLogicCard : Claim7 := { stood := { row := fnLogicRow, standIns := [], harness := (true, "6ba401f61466597460c41e7e27017e281078848d681e48e7c0d054b82677917b"), looks := false }, kinds := [], alts := [], laidByText := true, laidKinds := [.data, .data, .data], laidTests := true, laidLooks := .later }
def FnLogicCardSaid : Prop := Claim7.holds Tryz.pinned (.plain (OpenSpec.ofChange fnLogicSpec)) fnLogicCard

/-- THE SECOND FORM's CARD OF 'laws.FnLogic'. -/
def fnLogicUptoCard : Claim7 := { stood := { row := fnLogicUptoRow, standIns := [], harness := (true, "6ba401f61466597460c41e7e27017e281078848d681e48e7c0d054b82677917b"), looks := false }, kinds := [], alts := [], laidByText := true, laidKinds := [.data, .data, .data], laidTests := true, laidLooks := .later }
def FnLogicUptoCardSaid : Prop := Claim7.holds Tryz.pinned (.plain (OpenSpec.upto fnLogicSpec)) fnLogicUptoCard
end Rows
end Go.Proofs.YtjaaacbiaimdlaaGreatDoor

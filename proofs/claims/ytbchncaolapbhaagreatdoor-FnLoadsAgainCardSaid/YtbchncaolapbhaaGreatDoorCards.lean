/-
  DERIVED. GIVEN WITH THE SEED: THE CARDS: each row of YtbchncaolapbhaaGreatDoorRows.lean that lists a variable, with what it lists TIED to the program's text (the seventh form; the later family's looks); each row that meets fmt, with fmt's text TOLD by the authors' own Lean function (tested against real Go, not proved from fmt's source: count such statements apart). THE CARD IS WHAT COUNTS. Prove the row's statement (the work); the ties are given (YtbchncaolapbhaaGreatDoorTie.lean); close each card by the builder's one call (the guide's Derived/Test/ToyasCard.lean, 'card_holds'). Laid BY PROGRAM, IN A SANDBOX (cutbox-door.mjs). By AI agents, Wed Nov 11 2026. No macro, syntax, notation, axiom, sorry.
-/
import Derived.Test.YtbchncaolapbhaaGreatDoorRows
import GoSem.ClaimSeven
namespace Go.Proofs.YtbchncaolapbhaaGreatDoor
namespace Rows

/-- THE TIED CARD OF 'laws.FnLoadsAgain'. -/
def fnLoadsAgainCard : Claim7 := { stood := { row := fnLoadsAgainRow, standIns := [], harness := (true, "66946a07a4d437afae8ef2cb572ba8b20591c9bc9a04b397db8254a0c8fde4ad"), looks := false }, kinds := [], alts := [], laidByText := true, laidKinds := [.data, .data, .data], laidTests := true, laidLooks := .later }
def FnLoadsAgainCardSaid : Prop := Claim7.holds Tryz.pinned (.plain (OpenSpec.ofChange fnLoadsAgainSpec)) fnLoadsAgainCard

/-- THE SECOND FORM's CARD OF 'laws.FnLoadsAgain'. -/
def fnLoadsAgainUptoCard : Claim7 := { stood := { row := fnLoadsAgainUptoRow, standIns := [], harness := (true, "66946a07a4d437afae8ef2cb572ba8b20591c9bc9a04b397db8254a0c8fde4ad"), looks := false }, kinds := [], alts := [], laidByText := true, laidKinds := [.data, .data, .data], laidTests := true, laidLooks := .later }
def FnLoadsAgainUptoCardSaid : Prop := Claim7.holds Tryz.pinned (.plain (OpenSpec.upto fnLoadsAgainSpec)) fnLoadsAgainUptoCard
end Rows
end Go.Proofs.YtbchncaolapbhaaGreatDoor

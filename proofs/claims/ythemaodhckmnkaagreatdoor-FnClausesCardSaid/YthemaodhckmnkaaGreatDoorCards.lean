/-
  DERIVED. GIVEN WITH THE SEED: THE CARDS: each row of YthemaodhckmnkaaGreatDoorRows.lean that lists a variable, with what it lists TIED to the program's text (the seventh form; the later family's looks); each row that meets fmt, with fmt's text TOLD by the authors' own Lean function (tested against real Go, not proved from fmt's source: count such statements apart). THE CARD IS WHAT COUNTS. Prove the row's statement (the work); the ties are given (YthemaodhckmnkaaGreatDoorTie.lean); close each card by the builder's one call (the guide's Derived/Test/ToyasCard.lean, 'card_holds'). Laid BY PROGRAM, IN A SANDBOX (cutbox-door.mjs). By AI agents, Wed Nov 11 2026. No macro, syntax, notation, axiom, sorry.
-/
import Derived.Test.YthemaodhckmnkaaGreatDoorRows
import GoSem.ClaimSeven
namespace Go.Proofs.YthemaodhckmnkaaGreatDoor
namespace Rows

/-- THE TIED CARD OF 'laws.FnClauses'. -/
def fnClausesCard : Claim7 := { stood := { row := fnClausesRow, standIns := [], harness := (true, "9ba793c611f32ac076310e9d2020f3e96ddd9318718f1759049d9d5ecfba0e77"), looks := false }, kinds := [], alts := [], laidByText := true, laidKinds := [.data, .data, .data], laidTests := true, laidLooks := .later }
def FnClausesCardSaid : Prop := Claim7.holds Tryz.pinned (.plain (OpenSpec.ofChange fnClausesSpec)) fnClausesCard

/-- THE SECOND FORM's CARD OF 'laws.FnClauses'. -/
def fnClausesUptoCard : Claim7 := { stood := { row := fnClausesUptoRow, standIns := [], harness := (true, "9ba793c611f32ac076310e9d2020f3e96ddd9318718f1759049d9d5ecfba0e77"), looks := false }, kinds := [], alts := [], laidByText := true, laidKinds := [.data, .data, .data], laidTests := true, laidLooks := .later }
def FnClausesUptoCardSaid : Prop := Claim7.holds Tryz.pinned (.plain (OpenSpec.upto fnClausesSpec)) fnClausesUptoCard
end Rows
end Go.Proofs.YthemaodhckmnkaaGreatDoor

/-
  DERIVED. GIVEN WITH THE SEED: THE CARDS: each row of YtmfimfgdbmjkkaaDoorRows.lean that lists a variable, with what it lists TIED to the program's text (the seventh form; the later family's looks); each row that meets fmt, with fmt's text TOLD by the authors' own Lean function (tested against real Go, not proved from fmt's source: count such statements apart). THE CARD IS WHAT COUNTS. Prove the row's statement (the work); the ties are given (YtmfimfgdbmjkkaaDoorTie.lean); close each card by the builder's one call (the guide's Derived/Test/ToyasCard.lean, 'card_holds'). Laid BY PROGRAM, IN A SANDBOX (cutbox-door.mjs). By AI agents, Wed Nov 11 2026. No macro, syntax, notation, axiom, sorry.
-/
import Derived.Test.YtmfimfgdbmjkkaaDoorRows
import GoSem.ClaimSeven
namespace Go.Proofs.YtmfimfgdbmjkkaaDoor
namespace Rows

/-- THE TIED CARD OF 'laws.FnExactWriteTerm'. -/
def fnExactWriteTermCard : Claim7 := { stood := { row := fnExactWriteTermRow, standIns := [], harness := (true, "7710983474700350c1717efc8346b3fd7d51dc0eb2cf79fce175b775de952046"), looks := false }, kinds := [], alts := [], laidByText := true, laidKinds := [.data, .data, .data], laidTests := true, laidLooks := .later }
def FnExactWriteTermCardSaid : Prop := Claim7.holds Tryd.pinned (.plain (OpenSpec.ofChange fnExactWriteTermSpec)) fnExactWriteTermCard

/-- THE SECOND FORM's CARD OF 'laws.FnExactWriteTerm'. -/
def fnExactWriteTermUptoCard : Claim7 := { stood := { row := fnExactWriteTermUptoRow, standIns := [], harness := (true, "7710983474700350c1717efc8346b3fd7d51dc0eb2cf79fce175b775de952046"), looks := false }, kinds := [], alts := [], laidByText := true, laidKinds := [.data, .data, .data], laidTests := true, laidLooks := .later }
def FnExactWriteTermUptoCardSaid : Prop := Claim7.holds Tryd.pinned (.plain (OpenSpec.upto fnExactWriteTermSpec)) fnExactWriteTermUptoCard
end Rows
end Go.Proofs.YtmfimfgdbmjkkaaDoor

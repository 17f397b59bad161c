/-
  DERIVED. GIVEN WITH THE SEED: THE CARDS: each row of YtipjloclobcpkaaGreatDoorRows.lean that lists a variable, with what it lists TIED to the program's text (the seventh form; the later family's looks); each row that meets fmt, with fmt's text TOLD by the authors' own Lean function (tested against real Go, not proved from fmt's source: count such statements apart). THE CARD IS WHAT COUNTS. Prove the row's statement (the work); the ties are given (YtipjloclobcpkaaGreatDoorTie.lean); close each card by the builder's one call (the guide's Derived/Test/ToyasCard.lean, 'card_holds'). Laid BY PROGRAM, IN A SANDBOX (cutbox-door.mjs). By AI agents, Wed Nov 11 2026. No macro, syntax, notation, axiom, sorry.
-/
import Derived.Test.YtipjloclobcpkaaGreatDoorRows
import GoSem.ClaimSeven
namespace Go.Proofs.YtipjloclobcpkaaGreatDoor
namespace Rows

/-- THE TIED CARD OF 'laws.FnWrites'. -/
def fnWritesCard : Claim7 := { stood := { row := fnWritesRow, standIns := [], harness := (true, "11e4a0c72bd62aff6319d408ea3f170782ac59ccf245152c7b4c3f4f51f1370e"), looks := false }, kinds := [], alts := [], laidByText := true, laidKinds := [.data, .data, .data], laidTests := true, laidLooks := .later }
def FnWritesCardSaid : Prop := Claim7.holds Tryz.pinned (.plain (OpenSpec.ofChange fnWritesSpec)) fnWritesCard

/-- THE TIED CARD OF 'laws.FnExactReadsBack'. -/
def fnExactReadsBackCard : Claim7 := { stood := { row := fnExactReadsBackRow, standIns := [], harness := (true, "11e4a0c72bd62aff6319d408ea3f170782ac59ccf245152c7b4c3f4f51f1370e"), looks := false }, kinds := [], alts := [], laidByText := true, laidKinds := [.data, .data, .data], laidTests := true, laidLooks := .later }
def FnExactReadsBackCardSaid : Prop := Claim7.holds Tryz.pinned (.plain (OpenSpec.ofChange fnExactReadsBackSpec)) fnExactReadsBackCard

/-- THE TIED CARD OF 'laws.FnExactAgain'. -/
def fnExactAgainCard : Claim7 := { stood := { row := fnExactAgainRow, standIns := [], harness := (true, "11e4a0c72bd62aff6319d408ea3f170782ac59ccf245152c7b4c3f4f51f1370e"), looks := false }, kinds := [], alts := [], laidByText := true, laidKinds := [.data, .data, .data], laidTests := true, laidLooks := .later }
def FnExactAgainCardSaid : Prop := Claim7.holds Tryz.pinned (.plain (OpenSpec.ofChange fnExactAgainSpec)) fnExactAgainCard

/-- THE TIED CARD OF 'laws.FnLoadsAgain'. -/
def fnLoadsAgainCard : Claim7 := { stood := { row := fnLoadsAgainRow, standIns := [], harness := (true, "11e4a0c72bd62aff6319d408ea3f170782ac59ccf245152c7b4c3f4f51f1370e"), looks := false }, kinds := [], alts := [], laidByText := true, laidKinds := [.data, .data, .data], laidTests := true, laidLooks := .later }
def FnLoadsAgainCardSaid : Prop := Claim7.holds Tryz.pinned (.plain (OpenSpec.ofChange fnLoadsAgainSpec)) fnLoadsAgainCard

/-- THE TIED CARD OF 'laws.FnTruths'. -/
def fnTruthsCard : Claim7 := { stood := { row := fnTruthsRow, standIns := [], harness := (true, "11e4a0c72bd62aff6319d408ea3f170782ac59ccf245152c7b4c3f4f51f1370e"), looks := false }, kinds := [], alts := [], laidByText := true, laidKinds := [.data, .data, .data], laidTests := true, laidLooks := .later }
def FnTruthsCardSaid : Prop := Claim7.holds Tryz.pinned (.plain (OpenSpec.ofChange fnTruthsSpec)) fnTruthsCard

/-- THE SECOND FORM's CARD OF 'laws.FnWrites'. -/
def fnWritesUptoCard : Claim7 := { stood := { row := fnWritesUptoRow, standIns := [], harness := (true, "11e4a0c72bd62aff6319d408ea3f170782ac59ccf245152c7b4c3f4f51f1370e"), looks := false }, kinds := [], alts := [], laidByText := true, laidKinds := [.data, .data, .data], laidTests := true, laidLooks := .later }
def FnWritesUptoCardSaid : Prop := Claim7.holds Tryz.pinned (.plain (OpenSpec.upto fnWritesSpec)) fnWritesUptoCard

/-- THE SECOND FORM's CARD OF 'laws.FnExactReadsBack'. -/
def fnExactReadsBackUptoCard : Claim7 := { stood := { row := fnExactReadsBackUptoRow, standIns := [], harness := (true, "11e4a0c72bd62aff6319d408ea3f170782ac59ccf245152c7b4c3f4f51f1370e"), looks := false }, kinds := [], alts := [], laidByText := true, laidKinds := [.data, .data, .data], laidTests := true, laidLooks := .later }
def FnExactReadsBackUptoCardSaid : Prop := Claim7.holds Tryz.pinned (.plain (OpenSpec.upto fnExactReadsBackSpec)) fnExactReadsBackUptoCard

/-- THE SECOND FORM's CARD OF 'laws.FnExactAgain'. -/
def fnExactAgainUptoCard : Claim7 := { stood := { row := fnExactAgainUptoRow, standIns := [], harness := (true, "11e4a0c72bd62aff6319d408ea3f170782ac59ccf245152c7b4c3f4f51f1370e"), looks := false }, kinds := [], alts := [], laidByText := true, laidKinds := [.data, .data, .data], laidTests := true, laidLooks := .later }
def FnExactAgainUptoCardSaid : Prop := Claim7.holds Tryz.pinned (.plain (OpenSpec.upto fnExactAgainSpec)) fnExactAgainUptoCard

/-- THE SECOND FORM's CARD OF 'laws.FnLoadsAgain'. -/
def fnLoadsAgainUptoCard : Claim7 := { stood := { row := fnLoadsAgainUptoRow, standIns := [], harness := (true, "11e4a0c72bd62aff6319d408ea3f170782ac59ccf245152c7b4c3f4f51f1370e"), looks := false }, kinds := [], alts := [], laidByText := true, laidKinds := [.data, .data, .data], laidTests := true, laidLooks := .later }
def FnLoadsAgainUptoCardSaid : Prop := Claim7.holds Tryz.pinned (.plain (OpenSpec.upto fnLoadsAgainSpec)) fnLoadsAgainUptoCard

/-- THE SECOND FORM's CARD OF 'laws.FnTruths'. -/
def fnTruthsUptoCard : Claim7 := { stood := { row := fnTruthsUptoRow, standIns := [], harness := (true, "11e4a0c72bd62aff6319d408ea3f170782ac59ccf245152c7b4c3f4f51f1370e"), looks := false }, kinds := [], alts := [], laidByText := true, laidKinds := [.data, .data, .data], laidTests := true, laidLooks := .later }
def FnTruthsUptoCardSaid : Prop := Claim7.holds Tryz.pinned (.plain (OpenSpec.upto fnTruthsSpec)) fnTruthsUptoCard
end Rows
end Go.Proofs.YtipjloclobcpkaaGreatDoor

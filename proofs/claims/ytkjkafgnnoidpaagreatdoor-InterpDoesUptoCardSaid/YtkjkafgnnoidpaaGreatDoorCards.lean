/-
  DERIVED. GIVEN WITH THE SEED: THE CARDS: each row of YtkjkafgnnoidpaaGreatDoorRows.lean that lists a variable, with what it lists TIED to the program's text (the seventh form; the later family's looks); each row that meets fmt, with fmt's text TOLD by the authors' own Lean function (tested against real Go, not proved from fmt's source: count such statements apart). THE CARD IS WHAT COUNTS. Prove the row's statement (the work); the ties are given (YtkjkafgnnoidpaaGreatDoorTie.lean); close each card by the builder's one call (the guide's Derived/Test/ToyasCard.lean, 'card_holds'). Laid BY PROGRAM, IN A SANDBOX (cutbox-door.mjs). By AI agents, Wed Nov 11 2026. No macro, syntax, notation, axiom, sorry.
-/
import Derived.Test.YtkjkafgnnoidpaaGreatDoorRows
import GoSem.ClaimSeven
namespace Go.Proofs.YtkjkafgnnoidpaaGreatDoor
namespace Rows

/-- THE TIED CARD OF 'commonplacelaw13.InterpDoes'. -/
def interpDoesCard : Claim7 := { stood := { row := interpDoesRow, standIns := [], harness := (true, "180991c45bc1489e6cb82a441a99c2cc8a441501733efdcf760a0c65f67bd5ec"), looks := true }, kinds := [], alts := [], laidByText := true, laidKinds := [.data, .data, .data, .data, .pinned], laidTests := true, laidLooks := .later }
def InterpDoesCardSaid : Prop := Claim7.holds Tryz.pinned (.plain (OpenSpec.ofChange interpDoesSpec)) interpDoesCard

/-- THE TIED CARD OF 'commonplacelaw13.InterpGuards'. -/
def interpGuardsCard : Claim7 := { stood := { row := interpGuardsRow, standIns := [], harness := (true, "180991c45bc1489e6cb82a441a99c2cc8a441501733efdcf760a0c65f67bd5ec"), looks := true }, kinds := [], alts := [], laidByText := true, laidKinds := [.data, .data, .data, .data, .pinned], laidTests := true, laidLooks := .later }
def InterpGuardsCardSaid : Prop := Claim7.holds Tryz.pinned (.plain (OpenSpec.ofChange interpGuardsSpec)) interpGuardsCard

/-- THE TIED CARD OF 'commonplacelaw13.InterpPlays'. -/
def interpPlaysCard : Claim7 := { stood := { row := interpPlaysRow, standIns := [], harness := (true, "180991c45bc1489e6cb82a441a99c2cc8a441501733efdcf760a0c65f67bd5ec"), looks := true }, kinds := [], alts := [], laidByText := true, laidKinds := [.data, .data, .data, .data, .pinned], laidTests := true, laidLooks := .later }
def InterpPlaysCardSaid : Prop := Claim7.holds Tryz.pinned (.plain (OpenSpec.ofChange interpPlaysSpec)) interpPlaysCard

/-- THE TIED CARD OF 'commonplacelaw13.InterpMoves'. -/
def interpMovesCard : Claim7 := { stood := { row := interpMovesRow, standIns := [], harness := (true, "180991c45bc1489e6cb82a441a99c2cc8a441501733efdcf760a0c65f67bd5ec"), looks := true }, kinds := [], alts := [], laidByText := true, laidKinds := [.data, .data, .data, .data, .pinned], laidTests := true, laidLooks := .later }
def InterpMovesCardSaid : Prop := Claim7.holds Tryz.pinned (.plain (OpenSpec.ofChange interpMovesSpec)) interpMovesCard

/-- THE TIED CARD OF 'commonplacelaw13.InterpSequence'. -/
def interpSequenceCard : Claim7 := { stood := { row := interpSequenceRow, standIns := [], harness := (true, "180991c45bc1489e6cb82a441a99c2cc8a441501733efdcf760a0c65f67bd5ec"), looks := true }, kinds := [], alts := [], laidByText := true, laidKinds := [.data, .data, .data, .data, .pinned], laidTests := true, laidLooks := .later }
def InterpSequenceCardSaid : Prop := Claim7.holds Tryz.pinned (.plain (OpenSpec.ofChange interpSequenceSpec)) interpSequenceCard

/-- THE TIED CARD OF 'commonplacelaw13.InterpBack'. -/
def interpBackCard : Claim7 := { stood := { row := interpBackRow, standIns := [], harness := (true, "180991c45bc1489e6cb82a441a99c2cc8a441501733efdcf760a0c65f67bd5ec"), looks := true }, kinds := [], alts := [], laidByText := true, laidKinds := [.data, .data, .data, .data, .pinned], laidTests := true, laidLooks := .later }
def InterpBackCardSaid : Prop := Claim7.holds Tryz.pinned (.plain (OpenSpec.ofChange interpBackSpec)) interpBackCard

/-- THE TIED CARD OF 'commonplacelaw13.InterpFolds'. -/
def interpFoldsCard : Claim7 := { stood := { row := interpFoldsRow, standIns := [], harness := (true, "180991c45bc1489e6cb82a441a99c2cc8a441501733efdcf760a0c65f67bd5ec"), looks := true }, kinds := [], alts := [], laidByText := true, laidKinds := [.data, .data, .data, .data, .pinned], laidTests := true, laidLooks := .later }
def InterpFoldsCardSaid : Prop := Claim7.holds Tryz.pinned (.plain (OpenSpec.ofChange interpFoldsSpec)) interpFoldsCard

/-- THE SECOND FORM's CARD OF 'commonplacelaw13.InterpDoes'. -/
def interpDoesUptoCard : Claim7 := { stood := { row := interpDoesUptoRow, standIns := [], harness := (true, "180991c45bc1489e6cb82a441a99c2cc8a441501733efdcf760a0c65f67bd5ec"), looks := true }, kinds := [], alts := [], laidByText := true, laidKinds := [.data, .data, .data, .data, .pinned], laidTests := true, laidLooks := .later }
def InterpDoesUptoCardSaid : Prop := Claim7.holds Tryz.pinned (.plain (OpenSpec.upto interpDoesSpec)) interpDoesUptoCard

/-- THE SECOND FORM's CARD OF 'commonplacelaw13.InterpGuards'. -/
def interpGuardsUptoCard : Claim7 := { stood := { row := interpGuardsUptoRow, standIns := [], harness := (true, "180991c45bc1489e6cb82a441a99c2cc8a441501733efdcf760a0c65f67bd5ec"), looks := true }, kinds := [], alts := [], laidByText := true, laidKinds := [.data, .data, .data, .data, .pinned], laidTests := true, laidLooks := .later }
def InterpGuardsUptoCardSaid : Prop := Claim7.holds Tryz.pinned (.plain (OpenSpec.upto interpGuardsSpec)) interpGuardsUptoCard

/-- THE SECOND FORM's CARD OF 'commonplacelaw13.InterpPlays'. -/
def interpPlaysUptoCard : Claim7 := { stood := { row := interpPlaysUptoRow, standIns := [], harness := (true, "180991c45bc1489e6cb82a441a99c2cc8a441501733efdcf760a0c65f67bd5ec"), looks := true }, kinds := [], alts := [], laidByText := true, laidKinds := [.data, .data, .data, .data, .pinned], laidTests := true, laidLooks := .later }
def InterpPlaysUptoCardSaid : Prop := Claim7.holds Tryz.pinned (.plain (OpenSpec.upto interpPlaysSpec)) interpPlaysUptoCard

/-- THE SECOND FORM's CARD OF 'commonplacelaw13.InterpMoves'. -/
def interpMovesUptoCard : Claim7 := { stood := { row := interpMovesUptoRow, standIns := [], harness := (true, "180991c45bc1489e6cb82a441a99c2cc8a441501733efdcf760a0c65f67bd5ec"), looks := true }, kinds := [], alts := [], laidByText := true, laidKinds := [.data, .data, .data, .data, .pinned], laidTests := true, laidLooks := .later }
def InterpMovesUptoCardSaid : Prop := Claim7.holds Tryz.pinned (.plain (OpenSpec.upto interpMovesSpec)) interpMovesUptoCard

/-- THE SECOND FORM's CARD OF 'commonplacelaw13.InterpSequence'. -/
def interpSequenceUptoCard : Claim7 := { stood := { row := interpSequenceUptoRow, standIns := [], harness := (true, "180991c45bc1489e6cb82a441a99c2cc8a441501733efdcf760a0c65f67bd5ec"), looks := true }, kinds := [], alts := [], laidByText := true, laidKinds := [.data, .data, .data, .data, .pinned], laidTests := true, laidLooks := .later }
def InterpSequenceUptoCardSaid : Prop := Claim7.holds Tryz.pinned (.plain (OpenSpec.upto interpSequenceSpec)) interpSequenceUptoCard

/-- THE SECOND FORM's CARD OF 'commonplacelaw13.InterpBack'. -/
def interpBackUptoCard : Claim7 := { stood := { row := interpBackUptoRow, standIns := [], harness := (true, "180991c45bc1489e6cb82a441a99c2cc8a441501733efdcf760a0c65f67bd5ec"), looks := true }, kinds := [], alts := [], laidByText := true, laidKinds := [.data, .data, .data, .data, .pinned], laidTests := true, laidLooks := .later }
def InterpBackUptoCardSaid : Prop := Claim7.holds Tryz.pinned (.plain (OpenSpec.upto interpBackSpec)) interpBackUptoCard

/-- THE SECOND FORM's CARD OF 'commonplacelaw13.InterpFolds'. -/
def interpFoldsUptoCard : Claim7 := { stood := { row := interpFoldsUptoRow, standIns := [], harness := (true, "180991c45bc1489e6cb82a441a99c2cc8a441501733efdcf760a0c65f67bd5ec"), looks := true }, kinds := [], alts := [], laidByText := true, laidKinds := [.data, .data, .data, .data, .pinned], laidTests := true, laidLooks := .later }
def InterpFoldsUptoCardSaid : Prop := Claim7.holds Tryz.pinned (.plain (OpenSpec.upto interpFoldsSpec)) interpFoldsUptoCard
end Rows
end Go.Proofs.YtkjkafgnnoidpaaGreatDoor

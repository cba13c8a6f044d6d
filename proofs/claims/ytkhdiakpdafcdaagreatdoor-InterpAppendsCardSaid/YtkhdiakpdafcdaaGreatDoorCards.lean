/-
  DERIVED. GIVEN WITH THE SEED: THE CARDS: each row of YtkhdiakpdafcdaaGreatDoorRows.lean that lists a variable, with what it lists TIED to the program's text (the seventh form; the later family's looks); each row that meets fmt, with fmt's text TOLD by the authors' own Lean function (tested against real Go, not proved from fmt's source: count such statements apart). THE CARD IS WHAT COUNTS. Prove the row's statement (the work); the ties are given (YtkhdiakpdafcdaaGreatDoorTie.lean); close each card by the builder's one call (the guide's Derived/Test/ToyasCard.lean, 'card_holds'). Laid BY PROGRAM, IN A SANDBOX (cutbox-door.mjs). By AI agents, Wed Nov 11 2026. No macro, syntax, notation, axiom, sorry.
-/
import Derived.Test.YtkhdiakpdafcdaaGreatDoorRows
import GoSem.ClaimSeven
namespace Go.Proofs.YtkhdiakpdafcdaaGreatDoor
namespace Rows

/-- THE TIED CARD OF 'commonplacelaw13.InterpDoes'. -/
def interpDoesCard : Claim7 := { stood := { row := interpDoesRow, standIns := [], harness := (true, "7da2dd815f45c17c77200856e934f97fe19cf3182821e9a60127bf34d6a6abdb"), looks := true }, kinds := [], alts := [], laidByText := true, laidKinds := [.data, .data, .data, .data, .pinned], laidTests := true, laidLooks := .later }
def InterpDoesCardSaid : Prop := Claim7.holds Tryz.pinned (.plain (OpenSpec.ofChange interpDoesSpec)) interpDoesCard

/-- THE TIED CARD OF 'commonplacelaw13.InterpGuards'. -/
def interpGuardsCard : Claim7 := { stood := { row := interpGuardsRow, standIns := [], harness := (true, "7da2dd815f45c17c77200856e934f97fe19cf3182821e9a60127bf34d6a6abdb"), looks := true }, kinds := [], alts := [], laidByText := true, laidKinds := [.data, .data, .data, .data, .pinned], laidTests := true, laidLooks := .later }
def InterpGuardsCardSaid : Prop := Claim7.holds Tryz.pinned (.plain (OpenSpec.ofChange interpGuardsSpec)) interpGuardsCard

/-- THE TIED CARD OF 'commonplacelaw13.InterpPlays'. -/
def interpPlaysCard : Claim7 := { stood := { row := interpPlaysRow, standIns := [], harness := (true, "7da2dd815f45c17c77200856e934f97fe19cf3182821e9a60127bf34d6a6abdb"), looks := true }, kinds := [], alts := [], laidByText := true, laidKinds := [.data, .data, .data, .data, .pinned], laidTests := true, laidLooks := .later }
def InterpPlaysCardSaid : Prop := Claim7.holds Tryz.pinned (.plain (OpenSpec.ofChange interpPlaysSpec)) interpPlaysCard

/-- THE TIED CARD OF 'commonplacelaw13.InterpAdds'. -/
def interpAddsCard : Claim7 := { stood := { row := interpAddsRow, standIns := [], harness := (true, "7da2dd815f45c17c77200856e934f97fe19cf3182821e9a60127bf34d6a6abdb"), looks := true }, kinds := [], alts := [], laidByText := true, laidKinds := [.data, .data, .data, .data, .pinned], laidTests := true, laidLooks := .later }
def InterpAddsCardSaid : Prop := Claim7.holds Tryz.pinned (.plain (OpenSpec.ofChange interpAddsSpec)) interpAddsCard

/-- THE TIED CARD OF 'commonplacelaw13.InterpAppends'. -/
def interpAppendsCard : Claim7 := { stood := { row := interpAppendsRow, standIns := [], harness := (true, "7da2dd815f45c17c77200856e934f97fe19cf3182821e9a60127bf34d6a6abdb"), looks := true }, kinds := [], alts := [], laidByText := true, laidKinds := [.data, .data, .data, .data, .pinned], laidTests := true, laidLooks := .later }
def InterpAppendsCardSaid : Prop := Claim7.holds Tryz.pinned (.plain (OpenSpec.ofChange interpAppendsSpec)) interpAppendsCard

/-- THE TIED CARD OF 'commonplacelaw13.InterpMoves'. -/
def interpMovesCard : Claim7 := { stood := { row := interpMovesRow, standIns := [], harness := (true, "7da2dd815f45c17c77200856e934f97fe19cf3182821e9a60127bf34d6a6abdb"), looks := true }, kinds := [], alts := [], laidByText := true, laidKinds := [.data, .data, .data, .data, .pinned], laidTests := true, laidLooks := .later }
def InterpMovesCardSaid : Prop := Claim7.holds Tryz.pinned (.plain (OpenSpec.ofChange interpMovesSpec)) interpMovesCard

/-- THE TIED CARD OF 'commonplacelaw13.InterpNil'. -/
def interpNilCard : Claim7 := { stood := { row := interpNilRow, standIns := [], harness := (true, "7da2dd815f45c17c77200856e934f97fe19cf3182821e9a60127bf34d6a6abdb"), looks := true }, kinds := [], alts := [], laidByText := true, laidKinds := [.data, .data, .data, .data, .pinned], laidTests := true, laidLooks := .later }
def InterpNilCardSaid : Prop := Claim7.holds Tryz.pinned (.plain (OpenSpec.ofChange interpNilSpec)) interpNilCard

/-- THE TIED CARD OF 'commonplacelaw13.InterpSequence'. -/
def interpSequenceCard : Claim7 := { stood := { row := interpSequenceRow, standIns := [], harness := (true, "7da2dd815f45c17c77200856e934f97fe19cf3182821e9a60127bf34d6a6abdb"), looks := true }, kinds := [], alts := [], laidByText := true, laidKinds := [.data, .data, .data, .data, .pinned], laidTests := true, laidLooks := .later }
def InterpSequenceCardSaid : Prop := Claim7.holds Tryz.pinned (.plain (OpenSpec.ofChange interpSequenceSpec)) interpSequenceCard

/-- THE TIED CARD OF 'commonplacelaw13.InterpBack'. -/
def interpBackCard : Claim7 := { stood := { row := interpBackRow, standIns := [], harness := (true, "7da2dd815f45c17c77200856e934f97fe19cf3182821e9a60127bf34d6a6abdb"), looks := true }, kinds := [], alts := [], laidByText := true, laidKinds := [.data, .data, .data, .data, .pinned], laidTests := true, laidLooks := .later }
def InterpBackCardSaid : Prop := Claim7.holds Tryz.pinned (.plain (OpenSpec.ofChange interpBackSpec)) interpBackCard

/-- THE TIED CARD OF 'commonplacelaw13.InterpFolds'. -/
def interpFoldsCard : Claim7 := { stood := { row := interpFoldsRow, standIns := [], harness := (true, "7da2dd815f45c17c77200856e934f97fe19cf3182821e9a60127bf34d6a6abdb"), looks := true }, kinds := [], alts := [], laidByText := true, laidKinds := [.data, .data, .data, .data, .pinned], laidTests := true, laidLooks := .later }
def InterpFoldsCardSaid : Prop := Claim7.holds Tryz.pinned (.plain (OpenSpec.ofChange interpFoldsSpec)) interpFoldsCard

/-- THE SECOND FORM's CARD OF 'commonplacelaw13.InterpDoes'. -/
def interpDoesUptoCard : Claim7 := { stood := { row := interpDoesUptoRow, standIns := [], harness := (true, "7da2dd815f45c17c77200856e934f97fe19cf3182821e9a60127bf34d6a6abdb"), looks := true }, kinds := [], alts := [], laidByText := true, laidKinds := [.data, .data, .data, .data, .pinned], laidTests := true, laidLooks := .later }
def InterpDoesUptoCardSaid : Prop := Claim7.holds Tryz.pinned (.plain (OpenSpec.upto interpDoesSpec)) interpDoesUptoCard

/-- THE SECOND FORM's CARD OF 'commonplacelaw13.InterpGuards'. -/
def interpGuardsUptoCard : Claim7 := { stood := { row := interpGuardsUptoRow, standIns := [], harness := (true, "7da2dd815f45c17c77200856e934f97fe19cf3182821e9a60127bf34d6a6abdb"), looks := true }, kinds := [], alts := [], laidByText := true, laidKinds := [.data, .data, .data, .data, .pinned], laidTests := true, laidLooks := .later }
def InterpGuardsUptoCardSaid : Prop := Claim7.holds Tryz.pinned (.plain (OpenSpec.upto interpGuardsSpec)) interpGuardsUptoCard

/-- THE SECOND FORM's CARD OF 'commonplacelaw13.InterpPlays'. -/
def interpPlaysUptoCard : Claim7 := { stood := { row := interpPlaysUptoRow, standIns := [], harness := (true, "7da2dd815f45c17c77200856e934f97fe19cf3182821e9a60127bf34d6a6abdb"), looks := true }, kinds := [], alts := [], laidByText := true, laidKinds := [.data, .data, .data, .data, .pinned], laidTests := true, laidLooks := .later }
def InterpPlaysUptoCardSaid : Prop := Claim7.holds Tryz.pinned (.plain (OpenSpec.upto interpPlaysSpec)) interpPlaysUptoCard

/-- THE SECOND FORM's CARD OF 'commonplacelaw13.InterpAdds'. -/
def interpAddsUptoCard : Claim7 := { stood := { row := interpAddsUptoRow, standIns := [], harness := (true, "7da2dd815f45c17c77200856e934f97fe19cf3182821e9a60127bf34d6a6abdb"), looks := true }, kinds := [], alts := [], laidByText := true, laidKinds := [.data, .data, .data, .data, .pinned], laidTests := true, laidLooks := .later }
def InterpAddsUptoCardSaid : Prop := Claim7.holds Tryz.pinned (.plain (OpenSpec.upto interpAddsSpec)) interpAddsUptoCard

/-- THE SECOND FORM's CARD OF 'commonplacelaw13.InterpAppends'. -/
def interpAppendsUptoCard : Claim7 := { stood := { row := interpAppendsUptoRow, standIns := [], harness := (true, "7da2dd815f45c17c77200856e934f97fe19cf3182821e9a60127bf34d6a6abdb"), looks := true }, kinds := [], alts := [], laidByText := true, laidKinds := [.data, .data, .data, .data, .pinned], laidTests := true, laidLooks := .later }
def InterpAppendsUptoCardSaid : Prop := Claim7.holds Tryz.pinned (.plain (OpenSpec.upto interpAppendsSpec)) interpAppendsUptoCard

/-- THE SECOND FORM's CARD OF 'commonplacelaw13.InterpMoves'. -/
def interpMovesUptoCard : Claim7 := { stood := { row := interpMovesUptoRow, standIns := [], harness := (true, "7da2dd815f45c17c77200856e934f97fe19cf3182821e9a60127bf34d6a6abdb"), looks := true }, kinds := [], alts := [], laidByText := true, laidKinds := [.data, .data, .data, .data, .pinned], laidTests := true, laidLooks := .later }
def InterpMovesUptoCardSaid : Prop := Claim7.holds Tryz.pinned (.plain (OpenSpec.upto interpMovesSpec)) interpMovesUptoCard

/-- THE SECOND FORM's CARD OF 'commonplacelaw13.InterpNil'. -/
def interpNilUptoCard : Claim7 := { stood := { row := interpNilUptoRow, standIns := [], harness := (true, "7da2dd815f45c17c77200856e934f97fe19cf3182821e9a60127bf34d6a6abdb"), looks := true }, kinds := [], alts := [], laidByText := true, laidKinds := [.data, .data, .data, .data, .pinned], laidTests := true, laidLooks := .later }
def InterpNilUptoCardSaid : Prop := Claim7.holds Tryz.pinned (.plain (OpenSpec.upto interpNilSpec)) interpNilUptoCard

/-- THE SECOND FORM's CARD OF 'commonplacelaw13.InterpSequence'. -/
def interpSequenceUptoCard : Claim7 := { stood := { row := interpSequenceUptoRow, standIns := [], harness := (true, "7da2dd815f45c17c77200856e934f97fe19cf3182821e9a60127bf34d6a6abdb"), looks := true }, kinds := [], alts := [], laidByText := true, laidKinds := [.data, .data, .data, .data, .pinned], laidTests := true, laidLooks := .later }
def InterpSequenceUptoCardSaid : Prop := Claim7.holds Tryz.pinned (.plain (OpenSpec.upto interpSequenceSpec)) interpSequenceUptoCard

/-- THE SECOND FORM's CARD OF 'commonplacelaw13.InterpBack'. -/
def interpBackUptoCard : Claim7 := { stood := { row := interpBackUptoRow, standIns := [], harness := (true, "7da2dd815f45c17c77200856e934f97fe19cf3182821e9a60127bf34d6a6abdb"), looks := true }, kinds := [], alts := [], laidByText := true, laidKinds := [.data, .data, .data, .data, .pinned], laidTests := true, laidLooks := .later }
def InterpBackUptoCardSaid : Prop := Claim7.holds Tryz.pinned (.plain (OpenSpec.upto interpBackSpec)) interpBackUptoCard

/-- THE SECOND FORM's CARD OF 'commonplacelaw13.InterpFolds'. -/
def interpFoldsUptoCard : Claim7 := { stood := { row := interpFoldsUptoRow, standIns := [], harness := (true, "7da2dd815f45c17c77200856e934f97fe19cf3182821e9a60127bf34d6a6abdb"), looks := true }, kinds := [], alts := [], laidByText := true, laidKinds := [.data, .data, .data, .data, .pinned], laidTests := true, laidLooks := .later }
def InterpFoldsUptoCardSaid : Prop := Claim7.holds Tryz.pinned (.plain (OpenSpec.upto interpFoldsSpec)) interpFoldsUptoCard
end Rows
end Go.Proofs.YtkhdiakpdafcdaaGreatDoor

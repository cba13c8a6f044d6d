/-
  DERIVED. GIVEN WITH THE SEED: THE CARDS: each row of YtahhllcdbjbpbaaGreatDoorRows.lean that lists a variable, with what it lists TIED to the program's text (the seventh form; the later family's looks); each row that meets fmt, with fmt's text TOLD by the authors' own Lean function (tested against real Go, not proved from fmt's source: count such statements apart). THE CARD IS WHAT COUNTS. Prove the row's statement (the work); the ties are given (YtahhllcdbjbpbaaGreatDoorTie.lean); close each card by the builder's one call (the guide's Derived/Test/ToyasCard.lean, 'card_holds'). Laid BY PROGRAM, IN A SANDBOX (cutbox-door.mjs). By AI agents, Wed Nov 11 2026. No macro, syntax, notation, axiom, sorry.
-/
import Derived.Test.YtahhllcdbjbpbaaGreatDoorRows
import GoSem.ClaimSeven
namespace Go.Proofs.YtahhllcdbjbpbaaGreatDoor
namespace Rows

/-- THE TIED CARD OF 'commonplacelaw24.RebaseOnto'. -/
def rebaseOntoCard : Claim7 := { stood := { row := rebaseOntoRow, standIns := [], harness := (true, "2ff2a2fcc62af60f715dca1b2941c1827b5e53d1e33c15a8465d7ea05ea60c26"), looks := true }, kinds := [], alts := [], laidByText := true, laidKinds := [.data, .data, .data, .data, .pinned], laidTests := true, laidLooks := .later }
def RebaseOntoCardSaid : Prop := Claim7.holds Tryz.pinned (.plain (OpenSpec.ofChange rebaseOntoSpec)) rebaseOntoCard

/-- THE SECOND FORM's CARD OF 'commonplacelaw24.RebaseOnto'. -/
def rebaseOntoUptoCard : Claim7 := { stood := { row := rebaseOntoUptoRow, standIns := [], harness := (true, "2ff2a2fcc62af60f715dca1b2941c1827b5e53d1e33c15a8465d7ea05ea60c26"), looks := true }, kinds := [], alts := [], laidByText := true, laidKinds := [.data, .data, .data, .data, .pinned], laidTests := true, laidLooks := .later }
def RebaseOntoUptoCardSaid : Prop := Claim7.holds Tryz.pinned (.plain (OpenSpec.upto rebaseOntoSpec)) rebaseOntoUptoCard
end Rows
end Go.Proofs.YtahhllcdbjbpbaaGreatDoor

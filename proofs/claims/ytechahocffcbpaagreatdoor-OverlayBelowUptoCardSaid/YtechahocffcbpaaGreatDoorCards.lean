/-
  DERIVED. GIVEN WITH THE SEED: THE CARDS: each row of YtechahocffcbpaaGreatDoorRows.lean that lists a variable, with what it lists TIED to the program's text (the seventh form; the later family's looks); each row that meets fmt, with fmt's text TOLD by the authors' own Lean function (tested against real Go, not proved from fmt's source: count such statements apart). THE CARD IS WHAT COUNTS. Prove the row's statement (the work); the ties are given (YtechahocffcbpaaGreatDoorTie.lean); close each card by the builder's one call (the guide's Derived/Test/ToyasCard.lean, 'card_holds'). Laid BY PROGRAM, IN A SANDBOX (cutbox-door.mjs). By AI agents, Wed Nov 11 2026. No macro, syntax, notation, axiom, sorry.
-/
import Derived.Test.YtechahocffcbpaaGreatDoorRows
import GoSem.ClaimSeven
namespace Go.Proofs.YtechahocffcbpaaGreatDoor
namespace Rows

/-- THE TIED CARD OF 'commonplacelaw12.OverlayOwn'. -/
def overlayOwnCard : Claim7 := { stood := { row := overlayOwnRow, standIns := [], harness := (true, "2c77b6bedf410c169ceb84593930735a86ccd185788148dc3ec13a7dc2024e16"), looks := false }, kinds := [], alts := [], laidByText := true, laidKinds := [.data, .data, .data, .data, .pinned], laidTests := true, laidLooks := .later }
def OverlayOwnCardSaid : Prop := Claim7.holds Tryz.pinned (.plain (OpenSpec.ofChange overlayOwnSpec)) overlayOwnCard

/-- THE TIED CARD OF 'commonplacelaw12.OverlayPuts'. -/
def overlayPutsCard : Claim7 := { stood := { row := overlayPutsRow, standIns := [], harness := (true, "2c77b6bedf410c169ceb84593930735a86ccd185788148dc3ec13a7dc2024e16"), looks := false }, kinds := [], alts := [], laidByText := true, laidKinds := [.data, .data, .data, .data, .pinned], laidTests := true, laidLooks := .later }
def OverlayPutsCardSaid : Prop := Claim7.holds Tryz.pinned (.plain (OpenSpec.ofChange overlayPutsSpec)) overlayPutsCard

/-- THE TIED CARD OF 'commonplacelaw12.OverlayNil'. -/
def overlayNilCard : Claim7 := { stood := { row := overlayNilRow, standIns := [], harness := (true, "2c77b6bedf410c169ceb84593930735a86ccd185788148dc3ec13a7dc2024e16"), looks := false }, kinds := [], alts := [], laidByText := true, laidKinds := [.data, .data, .data, .data, .pinned], laidTests := true, laidLooks := .later }
def OverlayNilCardSaid : Prop := Claim7.holds Tryz.pinned (.plain (OpenSpec.ofChange overlayNilSpec)) overlayNilCard

/-- THE TIED CARD OF 'commonplacelaw12.OverlayPlays'. -/
def overlayPlaysCard : Claim7 := { stood := { row := overlayPlaysRow, standIns := [], harness := (true, "2c77b6bedf410c169ceb84593930735a86ccd185788148dc3ec13a7dc2024e16"), looks := false }, kinds := [], alts := [], laidByText := true, laidKinds := [.data, .data, .data, .data, .pinned], laidTests := true, laidLooks := .later }
def OverlayPlaysCardSaid : Prop := Claim7.holds Tryz.pinned (.plain (OpenSpec.ofChange overlayPlaysSpec)) overlayPlaysCard

/-- THE TIED CARD OF 'commonplacelaw12.OverlayBelow'. -/
def overlayBelowCard : Claim7 := { stood := { row := overlayBelowRow, standIns := [], harness := (true, "2c77b6bedf410c169ceb84593930735a86ccd185788148dc3ec13a7dc2024e16"), looks := false }, kinds := [], alts := [], laidByText := true, laidKinds := [.data, .data, .data, .data, .pinned], laidTests := true, laidLooks := .later }
def OverlayBelowCardSaid : Prop := Claim7.holds Tryz.pinned (.plain (OpenSpec.ofChange overlayBelowSpec)) overlayBelowCard

/-- THE TIED CARD OF 'commonplacelaw12.OverlayMarks'. -/
def overlayMarksCard : Claim7 := { stood := { row := overlayMarksRow, standIns := [], harness := (true, "2c77b6bedf410c169ceb84593930735a86ccd185788148dc3ec13a7dc2024e16"), looks := false }, kinds := [], alts := [], laidByText := true, laidKinds := [.data, .data, .data, .data, .pinned], laidTests := true, laidLooks := .later }
def OverlayMarksCardSaid : Prop := Claim7.holds Tryz.pinned (.plain (OpenSpec.ofChange overlayMarksSpec)) overlayMarksCard

/-- THE SECOND FORM's CARD OF 'commonplacelaw12.OverlayOwn'. -/
def overlayOwnUptoCard : Claim7 := { stood := { row := overlayOwnUptoRow, standIns := [], harness := (true, "2c77b6bedf410c169ceb84593930735a86ccd185788148dc3ec13a7dc2024e16"), looks := false }, kinds := [], alts := [], laidByText := true, laidKinds := [.data, .data, .data, .data, .pinned], laidTests := true, laidLooks := .later }
def OverlayOwnUptoCardSaid : Prop := Claim7.holds Tryz.pinned (.plain (OpenSpec.upto overlayOwnSpec)) overlayOwnUptoCard

/-- THE SECOND FORM's CARD OF 'commonplacelaw12.OverlayPuts'. -/
def overlayPutsUptoCard : Claim7 := { stood := { row := overlayPutsUptoRow, standIns := [], harness := (true, "2c77b6bedf410c169ceb84593930735a86ccd185788148dc3ec13a7dc2024e16"), looks := false }, kinds := [], alts := [], laidByText := true, laidKinds := [.data, .data, .data, .data, .pinned], laidTests := true, laidLooks := .later }
def OverlayPutsUptoCardSaid : Prop := Claim7.holds Tryz.pinned (.plain (OpenSpec.upto overlayPutsSpec)) overlayPutsUptoCard

/-- THE SECOND FORM's CARD OF 'commonplacelaw12.OverlayNil'. -/
def overlayNilUptoCard : Claim7 := { stood := { row := overlayNilUptoRow, standIns := [], harness := (true, "2c77b6bedf410c169ceb84593930735a86ccd185788148dc3ec13a7dc2024e16"), looks := false }, kinds := [], alts := [], laidByText := true, laidKinds := [.data, .data, .data, .data, .pinned], laidTests := true, laidLooks := .later }
def OverlayNilUptoCardSaid : Prop := Claim7.holds Tryz.pinned (.plain (OpenSpec.upto overlayNilSpec)) overlayNilUptoCard

/-- THE SECOND FORM's CARD OF 'commonplacelaw12.OverlayPlays'. -/
def overlayPlaysUptoCard : Claim7 := { stood := { row := overlayPlaysUptoRow, standIns := [], harness := (true, "2c77b6bedf410c169ceb84593930735a86ccd185788148dc3ec13a7dc2024e16"), looks := false }, kinds := [], alts := [], laidByText := true, laidKinds := [.data, .data, .data, .data, .pinned], laidTests := true, laidLooks := .later }
def OverlayPlaysUptoCardSaid : Prop := Claim7.holds Tryz.pinned (.plain (OpenSpec.upto overlayPlaysSpec)) overlayPlaysUptoCard

/-- THE SECOND FORM's CARD OF 'commonplacelaw12.OverlayBelow'. -/
def overlayBelowUptoCard : Claim7 := { stood := { row := overlayBelowUptoRow, standIns := [], harness := (true, "2c77b6bedf410c169ceb84593930735a86ccd185788148dc3ec13a7dc2024e16"), looks := false }, kinds := [], alts := [], laidByText := true, laidKinds := [.data, .data, .data, .data, .pinned], laidTests := true, laidLooks := .later }
def OverlayBelowUptoCardSaid : Prop := Claim7.holds Tryz.pinned (.plain (OpenSpec.upto overlayBelowSpec)) overlayBelowUptoCard

/-- THE SECOND FORM's CARD OF 'commonplacelaw12.OverlayMarks'. -/
def overlayMarksUptoCard : Claim7 := { stood := { row := overlayMarksUptoRow, standIns := [], harness := (true, "2c77b6bedf410c169ceb84593930735a86ccd185788148dc3ec13a7dc2024e16"), looks := false }, kinds := [], alts := [], laidByText := true, laidKinds := [.data, .data, .data, .data, .pinned], laidTests := true, laidLooks := .later }
def OverlayMarksUptoCardSaid : Prop := Claim7.holds Tryz.pinned (.plain (OpenSpec.upto overlayMarksSpec)) overlayMarksUptoCard
end Rows
end Go.Proofs.YtechahocffcbpaaGreatDoor

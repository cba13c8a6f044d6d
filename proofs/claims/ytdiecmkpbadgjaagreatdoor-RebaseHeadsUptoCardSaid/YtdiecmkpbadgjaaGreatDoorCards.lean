/-
  DERIVED. GIVEN WITH THE SEED: THE CARDS: each row of YtdiecmkpbadgjaaGreatDoorRows.lean that lists a variable, with what it lists TIED to the program's text (the seventh form; the later family's looks); each row that meets fmt, with fmt's text TOLD by the authors' own Lean function (tested against real Go, not proved from fmt's source: count such statements apart). THE CARD IS WHAT COUNTS. Prove the row's statement (the work); the ties are given (YtdiecmkpbadgjaaGreatDoorTie.lean); close each card by the builder's one call (the guide's Derived/Test/ToyasCard.lean, 'card_holds'). Laid BY PROGRAM, IN A SANDBOX (cutbox-door.mjs). By AI agents, Wed Nov 11 2026. No macro, syntax, notation, axiom, sorry.
-/
import Derived.Test.YtdiecmkpbadgjaaGreatDoorRows
import GoSem.ClaimSeven
namespace Go.Proofs.YtdiecmkpbadgjaaGreatDoor
namespace Rows

/-- THE TIED CARD OF 'commonplacelaw24.RebaseLeft'. -/
def rebaseLeftCard : Claim7 := { stood := { row := rebaseLeftRow, standIns := [], harness := (true, "60520fab17900a42fb3f93bcf3fceff2884f54f02bdc38cae4aecd76a72e6e02"), looks := true }, kinds := [], alts := [], laidByText := true, laidKinds := [.data, .data, .data, .data, .pinned], laidTests := true, laidLooks := .later }
def RebaseLeftCardSaid : Prop := Claim7.holds Tryz.pinned (.plain (OpenSpec.ofChange rebaseLeftSpec)) rebaseLeftCard

/-- THE TIED CARD OF 'commonplacelaw24.RebaseOwn'. -/
def rebaseOwnCard : Claim7 := { stood := { row := rebaseOwnRow, standIns := [], harness := (true, "60520fab17900a42fb3f93bcf3fceff2884f54f02bdc38cae4aecd76a72e6e02"), looks := true }, kinds := [], alts := [], laidByText := true, laidKinds := [.data, .data, .data, .data, .pinned], laidTests := true, laidLooks := .later }
def RebaseOwnCardSaid : Prop := Claim7.holds Tryz.pinned (.plain (OpenSpec.ofChange rebaseOwnSpec)) rebaseOwnCard

/-- THE TIED CARD OF 'commonplacelaw24.RebaseHeads'. -/
def rebaseHeadsCard : Claim7 := { stood := { row := rebaseHeadsRow, standIns := [], harness := (true, "60520fab17900a42fb3f93bcf3fceff2884f54f02bdc38cae4aecd76a72e6e02"), looks := true }, kinds := [], alts := [], laidByText := true, laidKinds := [.data, .data, .data, .data, .pinned], laidTests := true, laidLooks := .later }
def RebaseHeadsCardSaid : Prop := Claim7.holds Tryz.pinned (.plain (OpenSpec.ofChange rebaseHeadsSpec)) rebaseHeadsCard

/-- THE TIED CARD OF 'commonplacelaw24.RebaseOnto'. -/
def rebaseOntoCard : Claim7 := { stood := { row := rebaseOntoRow, standIns := [], harness := (true, "60520fab17900a42fb3f93bcf3fceff2884f54f02bdc38cae4aecd76a72e6e02"), looks := true }, kinds := [], alts := [], laidByText := true, laidKinds := [.data, .data, .data, .data, .pinned], laidTests := true, laidLooks := .later }
def RebaseOntoCardSaid : Prop := Claim7.holds Tryz.pinned (.plain (OpenSpec.ofChange rebaseOntoSpec)) rebaseOntoCard

/-- THE TIED CARD OF 'commonplacelaw24.RebaseNone'. -/
def rebaseNoneCard : Claim7 := { stood := { row := rebaseNoneRow, standIns := [], harness := (true, "60520fab17900a42fb3f93bcf3fceff2884f54f02bdc38cae4aecd76a72e6e02"), looks := true }, kinds := [], alts := [], laidByText := true, laidKinds := [.data, .data, .data, .data, .pinned], laidTests := true, laidLooks := .later }
def RebaseNoneCardSaid : Prop := Claim7.holds Tryz.pinned (.plain (OpenSpec.ofChange rebaseNoneSpec)) rebaseNoneCard

/-- THE TIED CARD OF 'commonplacelaw24.RebaseParts'. -/
def rebasePartsCard : Claim7 := { stood := { row := rebasePartsRow, standIns := [], harness := (true, "60520fab17900a42fb3f93bcf3fceff2884f54f02bdc38cae4aecd76a72e6e02"), looks := true }, kinds := [], alts := [], laidByText := true, laidKinds := [.data, .data, .data, .data, .pinned], laidTests := true, laidLooks := .later }
def RebasePartsCardSaid : Prop := Claim7.holds Tryz.pinned (.plain (OpenSpec.ofChange rebasePartsSpec)) rebasePartsCard

/-- THE TIED CARD OF 'commonplacelaw24.RebaseLeads'. -/
def rebaseLeadsCard : Claim7 := { stood := { row := rebaseLeadsRow, standIns := [], harness := (true, "60520fab17900a42fb3f93bcf3fceff2884f54f02bdc38cae4aecd76a72e6e02"), looks := true }, kinds := [], alts := [], laidByText := true, laidKinds := [.data, .data, .data, .data, .pinned], laidTests := true, laidLooks := .later }
def RebaseLeadsCardSaid : Prop := Claim7.holds Tryz.pinned (.plain (OpenSpec.ofChange rebaseLeadsSpec)) rebaseLeadsCard

/-- THE SECOND FORM's CARD OF 'commonplacelaw24.RebaseLeft'. -/
def rebaseLeftUptoCard : Claim7 := { stood := { row := rebaseLeftUptoRow, standIns := [], harness := (true, "60520fab17900a42fb3f93bcf3fceff2884f54f02bdc38cae4aecd76a72e6e02"), looks := true }, kinds := [], alts := [], laidByText := true, laidKinds := [.data, .data, .data, .data, .pinned], laidTests := true, laidLooks := .later }
def RebaseLeftUptoCardSaid : Prop := Claim7.holds Tryz.pinned (.plain (OpenSpec.upto rebaseLeftSpec)) rebaseLeftUptoCard

/-- THE SECOND FORM's CARD OF 'commonplacelaw24.RebaseOwn'. -/
def rebaseOwnUptoCard : Claim7 := { stood := { row := rebaseOwnUptoRow, standIns := [], harness := (true, "60520fab17900a42fb3f93bcf3fceff2884f54f02bdc38cae4aecd76a72e6e02"), looks := true }, kinds := [], alts := [], laidByText := true, laidKinds := [.data, .data, .data, .data, .pinned], laidTests := true, laidLooks := .later }
def RebaseOwnUptoCardSaid : Prop := Claim7.holds Tryz.pinned (.plain (OpenSpec.upto rebaseOwnSpec)) rebaseOwnUptoCard

/-- THE SECOND FORM's CARD OF 'commonplacelaw24.RebaseHeads'. -/
def rebaseHeadsUptoCard : Claim7 := { stood := { row := rebaseHeadsUptoRow, standIns := [], harness := (true, "60520fab17900a42fb3f93bcf3fceff2884f54f02bdc38cae4aecd76a72e6e02"), looks := true }, kinds := [], alts := [], laidByText := true, laidKinds := [.data, .data, .data, .data, .pinned], laidTests := true, laidLooks := .later }
def RebaseHeadsUptoCardSaid : Prop := Claim7.holds Tryz.pinned (.plain (OpenSpec.upto rebaseHeadsSpec)) rebaseHeadsUptoCard

/-- THE SECOND FORM's CARD OF 'commonplacelaw24.RebaseOnto'. -/
def rebaseOntoUptoCard : Claim7 := { stood := { row := rebaseOntoUptoRow, standIns := [], harness := (true, "60520fab17900a42fb3f93bcf3fceff2884f54f02bdc38cae4aecd76a72e6e02"), looks := true }, kinds := [], alts := [], laidByText := true, laidKinds := [.data, .data, .data, .data, .pinned], laidTests := true, laidLooks := .later }
def RebaseOntoUptoCardSaid : Prop := Claim7.holds Tryz.pinned (.plain (OpenSpec.upto rebaseOntoSpec)) rebaseOntoUptoCard

/-- THE SECOND FORM's CARD OF 'commonplacelaw24.RebaseNone'. -/
def rebaseNoneUptoCard : Claim7 := { stood := { row := rebaseNoneUptoRow, standIns := [], harness := (true, "60520fab17900a42fb3f93bcf3fceff2884f54f02bdc38cae4aecd76a72e6e02"), looks := true }, kinds := [], alts := [], laidByText := true, laidKinds := [.data, .data, .data, .data, .pinned], laidTests := true, laidLooks := .later }
def RebaseNoneUptoCardSaid : Prop := Claim7.holds Tryz.pinned (.plain (OpenSpec.upto rebaseNoneSpec)) rebaseNoneUptoCard

/-- THE SECOND FORM's CARD OF 'commonplacelaw24.RebaseParts'. -/
def rebasePartsUptoCard : Claim7 := { stood := { row := rebasePartsUptoRow, standIns := [], harness := (true, "60520fab17900a42fb3f93bcf3fceff2884f54f02bdc38cae4aecd76a72e6e02"), looks := true }, kinds := [], alts := [], laidByText := true, laidKinds := [.data, .data, .data, .data, .pinned], laidTests := true, laidLooks := .later }
def RebasePartsUptoCardSaid : Prop := Claim7.holds Tryz.pinned (.plain (OpenSpec.upto rebasePartsSpec)) rebasePartsUptoCard

/-- THE SECOND FORM's CARD OF 'commonplacelaw24.RebaseLeads'. -/
def rebaseLeadsUptoCard : Claim7 := { stood := { row := rebaseLeadsUptoRow, standIns := [], harness := (true, "60520fab17900a42fb3f93bcf3fceff2884f54f02bdc38cae4aecd76a72e6e02"), looks := true }, kinds := [], alts := [], laidByText := true, laidKinds := [.data, .data, .data, .data, .pinned], laidTests := true, laidLooks := .later }
def RebaseLeadsUptoCardSaid : Prop := Claim7.holds Tryz.pinned (.plain (OpenSpec.upto rebaseLeadsSpec)) rebaseLeadsUptoCard
end Rows
end Go.Proofs.YtdiecmkpbadgjaaGreatDoor

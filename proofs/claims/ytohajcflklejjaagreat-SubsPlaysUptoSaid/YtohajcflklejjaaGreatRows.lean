/-
  NARROWER THAN 'FOR EVERY INPUT', by the rows' own cells (each row's printed sentence says how): SubsFolds: loops · SubsApart: loops · SubsPrefix: loops · SubsPlays: loops · SubsCalm: loops.
  DERIVED. THE GIVEN ROWS OF THIS SEAT. 8 by the template 'for every input the law returns true; each argument reads behind the call as it read before'; 0 by the template 'total and deterministic' (their statements: YtohajcflklejjaaGreatTotals.lean).
  GIVEN WITH THE SEED: the statements are not yours to turn. If you find one false, say at which input.
  Laid BY PROGRAM, IN A SANDBOX (cutbox-rows.mjs): the forced cells as the released guide's own fill.sh prints them over the translation 3ab0b8f514408802… (all of the seat's roots in one cut). By AI agents, Wed Nov 11 2026. No macro, syntax, notation, axiom, sorry.
-/
import Derived.Test.YtohajcflklejjaaGreatChecked
import GoSem.Claim
import GoSem.ClaimJoined
import GoSem.ClaimMapViews
import Derived.JoinedTies
import Derived.KernelRfl
namespace Go.Proofs.YtohajcflklejjaaGreat
/- THE CELL 'sum', in the pinned program and in every row, IS THE sha256 OF THE DUMP (.gsa) THAT YtohajcflklejjaaGreatProg.lean LOADS. Nothing in Lean hashes anything: it is a label: what it is worth is what the hold of that sum in a sandbox is worth. -/
noncomputable def Tryz.pinned : Pinned := { name := "ytohajcflklejjaagreat", sum := "3ab0b8f5144088021d3ca0eae724e1ac8312ef130816d41a80e38579dceafc32", checked := Tryz.checked }
namespace Rows
def none {H : Type} : Left H := { results := [], args := [] }

/-- 'commonplacelaw27.SubsMay': WHATEVER THE INPUT: true; the input reads as it did. -/
def subsMaySpec : ChangeSpec := { name := "subsMay", fn := fun _ => fun
  | [d1, d2] => { results := [.lit (.bool true)], args := [d1, d2] }
  | _ => none }
def subsMayRow : OpenClaim := { program := "ytohajcflklejjaagreat", sum := "3ab0b8f5144088021d3ca0eae724e1ac8312ef130816d41a80e38579dceafc32", func := "commonplace/commonplacelaw27.SubsMay", spec := "subsMay", inPlace := ["slices.overlaps[commonplace/api.Entry]", "slices.overlaps[*commonplace/node.Node]", "internal/bytealg.abigen_runtime_cmpstring"], unfollowed := true, recurses := true, apart := false }
def SubsMaySaid : Prop := subsMayRow.holds Tryz.pinned (OpenSpec.ofChange subsMaySpec)

/-- ITS FALSE NEIGHBOUR: 'it returns false'. Refute it at one input. -/
def subsMayWrong : ChangeSpec := { name := "subsMay", fn := fun _ => fun
  | [d1, d2] => { results := [.lit (.bool false)], args := [d1, d2] }
  | _ => none }
def SubsMayWrongFalsely : Prop := subsMayRow.holds Tryz.pinned (OpenSpec.ofChange subsMayWrong)

/-- 'commonplacelaw27.SubsOwn': WHATEVER THE INPUT: true; the input reads as it did. -/
def subsOwnSpec : ChangeSpec := { name := "subsOwn", fn := fun _ => fun
  | [d] => { results := [.lit (.bool true)], args := [d] }
  | _ => none }
def subsOwnRow : OpenClaim := { program := "ytohajcflklejjaagreat", sum := "3ab0b8f5144088021d3ca0eae724e1ac8312ef130816d41a80e38579dceafc32", func := "commonplace/commonplacelaw27.SubsOwn", spec := "subsOwn", inPlace := ["slices.overlaps[commonplace/api.Entry]", "slices.overlaps[*commonplace/node.Node]", "internal/bytealg.abigen_runtime_cmpstring"], unfollowed := true, recurses := true, apart := false }
def SubsOwnSaid : Prop := subsOwnRow.holds Tryz.pinned (OpenSpec.ofChange subsOwnSpec)

/-- ITS FALSE NEIGHBOUR: 'it returns false'. Refute it at one input. -/
def subsOwnWrong : ChangeSpec := { name := "subsOwn", fn := fun _ => fun
  | [d] => { results := [.lit (.bool false)], args := [d] }
  | _ => none }
def SubsOwnWrongFalsely : Prop := subsOwnRow.holds Tryz.pinned (OpenSpec.ofChange subsOwnWrong)

/-- 'commonplacelaw27.SubsNil': WHATEVER THE INPUT: true; the input reads as it did. -/
def subsNilSpec : ChangeSpec := { name := "subsNil", fn := fun _ => fun
  | [] => { results := [.lit (.bool true)], args := [] }
  | _ => none }
def subsNilRow : OpenClaim := { program := "ytohajcflklejjaagreat", sum := "3ab0b8f5144088021d3ca0eae724e1ac8312ef130816d41a80e38579dceafc32", func := "commonplace/commonplacelaw27.SubsNil", spec := "subsNil", inPlace := ["slices.overlaps[commonplace/api.Entry]", "slices.overlaps[*commonplace/node.Node]", "internal/bytealg.abigen_runtime_cmpstring"], unfollowed := true, recurses := true, apart := false }
def SubsNilSaid : Prop := subsNilRow.holds Tryz.pinned (OpenSpec.ofChange subsNilSpec)

/-- ITS FALSE NEIGHBOUR: 'it returns false'. Refute it at one input. -/
def subsNilWrong : ChangeSpec := { name := "subsNil", fn := fun _ => fun
  | [] => { results := [.lit (.bool false)], args := [] }
  | _ => none }
def SubsNilWrongFalsely : Prop := subsNilRow.holds Tryz.pinned (OpenSpec.ofChange subsNilWrong)

/-- 'commonplacelaw27.SubsFolds': WHATEVER THE INPUT: true; the input reads as it did. -/
def subsFoldsSpec : ChangeSpec := { name := "subsFolds", fn := fun _ => fun
  | [d1, d2, d3] => { results := [.lit (.bool true)], args := [d1, d2, d3] }
  | _ => none }
def subsFoldsRow : OpenClaim := { program := "ytohajcflklejjaagreat", sum := "3ab0b8f5144088021d3ca0eae724e1ac8312ef130816d41a80e38579dceafc32", func := "commonplace/commonplacelaw27.SubsFolds", spec := "subsFolds", inPlace := ["slices.overlaps[commonplace/api.Entry]", "slices.overlaps[*commonplace/node.Node]", "internal/bytealg.abigen_runtime_cmpstring"], unfollowed := true, recurses := true, loops := true, apart := false }
def SubsFoldsSaid : Prop := subsFoldsRow.holds Tryz.pinned (OpenSpec.ofChange subsFoldsSpec)

/-- ITS FALSE NEIGHBOUR: 'it returns false'. Refute it at one input. -/
def subsFoldsWrong : ChangeSpec := { name := "subsFolds", fn := fun _ => fun
  | [d1, d2, d3] => { results := [.lit (.bool false)], args := [d1, d2, d3] }
  | _ => none }
def SubsFoldsWrongFalsely : Prop := subsFoldsRow.holds Tryz.pinned (OpenSpec.ofChange subsFoldsWrong)

/-- 'commonplacelaw27.SubsApart': WHATEVER THE INPUT: true; the input reads as it did. -/
def subsApartSpec : ChangeSpec := { name := "subsApart", fn := fun _ => fun
  | [d1, d2, d3, d4] => { results := [.lit (.bool true)], args := [d1, d2, d3, d4] }
  | _ => none }
def subsApartRow : OpenClaim := { program := "ytohajcflklejjaagreat", sum := "3ab0b8f5144088021d3ca0eae724e1ac8312ef130816d41a80e38579dceafc32", func := "commonplace/commonplacelaw27.SubsApart", spec := "subsApart", inPlace := ["slices.overlaps[commonplace/api.Entry]", "slices.overlaps[*commonplace/node.Node]", "internal/bytealg.abigen_runtime_cmpstring"], unfollowed := true, recurses := true, loops := true, apart := false }
def SubsApartSaid : Prop := subsApartRow.holds Tryz.pinned (OpenSpec.ofChange subsApartSpec)

/-- ITS FALSE NEIGHBOUR: 'it returns false'. Refute it at one input. -/
def subsApartWrong : ChangeSpec := { name := "subsApart", fn := fun _ => fun
  | [d1, d2, d3, d4] => { results := [.lit (.bool false)], args := [d1, d2, d3, d4] }
  | _ => none }
def SubsApartWrongFalsely : Prop := subsApartRow.holds Tryz.pinned (OpenSpec.ofChange subsApartWrong)

/-- 'commonplacelaw27.SubsPrefix': WHATEVER THE INPUT: true; the input reads as it did. -/
def subsPrefixSpec : ChangeSpec := { name := "subsPrefix", fn := fun _ => fun
  | [d1, d2, d3] => { results := [.lit (.bool true)], args := [d1, d2, d3] }
  | _ => none }
def subsPrefixRow : OpenClaim := { program := "ytohajcflklejjaagreat", sum := "3ab0b8f5144088021d3ca0eae724e1ac8312ef130816d41a80e38579dceafc32", func := "commonplace/commonplacelaw27.SubsPrefix", spec := "subsPrefix", inPlace := ["slices.overlaps[commonplace/api.Entry]", "slices.overlaps[*commonplace/node.Node]", "internal/bytealg.abigen_runtime_cmpstring"], unfollowed := true, recurses := true, loops := true, apart := false }
def SubsPrefixSaid : Prop := subsPrefixRow.holds Tryz.pinned (OpenSpec.ofChange subsPrefixSpec)

/-- ITS FALSE NEIGHBOUR: 'it returns false'. Refute it at one input. -/
def subsPrefixWrong : ChangeSpec := { name := "subsPrefix", fn := fun _ => fun
  | [d1, d2, d3] => { results := [.lit (.bool false)], args := [d1, d2, d3] }
  | _ => none }
def SubsPrefixWrongFalsely : Prop := subsPrefixRow.holds Tryz.pinned (OpenSpec.ofChange subsPrefixWrong)

/-- 'commonplacelaw27.SubsPlays': WHATEVER THE INPUT: true; the input reads as it did. -/
def subsPlaysSpec : ChangeSpec := { name := "subsPlays", fn := fun _ => fun
  | [d1, d2] => { results := [.lit (.bool true)], args := [d1, d2] }
  | _ => none }
def subsPlaysRow : OpenClaim := { program := "ytohajcflklejjaagreat", sum := "3ab0b8f5144088021d3ca0eae724e1ac8312ef130816d41a80e38579dceafc32", func := "commonplace/commonplacelaw27.SubsPlays", spec := "subsPlays", inPlace := ["slices.overlaps[commonplace/api.Entry]", "slices.overlaps[*commonplace/node.Node]", "internal/bytealg.abigen_runtime_cmpstring"], unfollowed := true, recurses := true, loops := true, apart := false }
def SubsPlaysSaid : Prop := subsPlaysRow.holds Tryz.pinned (OpenSpec.ofChange subsPlaysSpec)

/-- ITS FALSE NEIGHBOUR: 'it returns false'. Refute it at one input. -/
def subsPlaysWrong : ChangeSpec := { name := "subsPlays", fn := fun _ => fun
  | [d1, d2] => { results := [.lit (.bool false)], args := [d1, d2] }
  | _ => none }
def SubsPlaysWrongFalsely : Prop := subsPlaysRow.holds Tryz.pinned (OpenSpec.ofChange subsPlaysWrong)

/-- 'commonplacelaw27.SubsCalm': WHATEVER THE INPUT: true; the input reads as it did. -/
def subsCalmSpec : ChangeSpec := { name := "subsCalm", fn := fun _ => fun
  | [d1, d2] => { results := [.lit (.bool true)], args := [d1, d2] }
  | _ => none }
def subsCalmRow : OpenClaim := { program := "ytohajcflklejjaagreat", sum := "3ab0b8f5144088021d3ca0eae724e1ac8312ef130816d41a80e38579dceafc32", func := "commonplace/commonplacelaw27.SubsCalm", spec := "subsCalm", inPlace := ["slices.overlaps[commonplace/api.Entry]", "slices.overlaps[*commonplace/node.Node]", "internal/bytealg.abigen_runtime_cmpstring"], unfollowed := true, recurses := true, loops := true, apart := false }
def SubsCalmSaid : Prop := subsCalmRow.holds Tryz.pinned (OpenSpec.ofChange subsCalmSpec)

/-- ITS FALSE NEIGHBOUR: 'it returns false'. Refute it at one input. -/
def subsCalmWrong : ChangeSpec := { name := "subsCalm", fn := fun _ => fun
  | [d1, d2] => { results := [.lit (.bool false)], args := [d1, d2] }
  | _ => none }
def SubsCalmWrongFalsely : Prop := subsCalmRow.holds Tryz.pinned (OpenSpec.ofChange subsCalmWrong)

/- THE SECOND FORM. 'bulk': how many values and letters a reading holds, each counted each time it is reached (what is shared counts as often as it is met; a slice's spare places count too). A statement '..UptoSaid' is the law's where the arguments, and the package variables that the reading takes, are together of bulk at most 1048576: NARROWER than '..Said'. Prove '..Said' where nothing that the law and all that it calls make is longer than what came in: it says more and counts as full. Else prove '..UptoSaid'. A law counts once. -/
mutual
def uptoBulk {H : Type} : DataW H → Nat
  | .lit (.string bytes) => bytes.length + 1
  | .lit _ => 1
  | .nil => 1
  | .ptr d => uptoBulk d + 1
  | .slice elems spare => uptoBulkAll elems + uptoBulkAll spare + 1
  | .agg parts => uptoBulkAll parts + 1
  | .iface _ d => uptoBulk d + 1
  | .map entries => uptoBulkEntries entries + 1
  | .held _ => 1
def uptoBulkAll {H : Type} : List (DataW H) → Nat
  | [] => 0
  | d :: r => uptoBulk d + uptoBulkAll r
def uptoBulkEntries {H : Type} : List (Lit × DataW H) → Nat
  | [] => 0
  | x :: r => uptoBulkEntry x + uptoBulkEntries r
def uptoBulkEntry {H : Type} : Lit × DataW H → Nat
  | (.string bytes, d) => bytes.length + uptoBulk d + 1
  | (_, d) => uptoBulk d + 1
 end
def uptoSmall : (H : Type) → List (DataW H) → Bool := fun _ ds => decide (uptoBulkAll ds ≤ 1048576)
def OpenSpec.upto (s : _root_.Go.ChangeSpec) : _root_.Go.OpenSpec := { _root_.Go.OpenSpec.ofChange s with cond := some uptoSmall }

/-- 'commonplacelaw27.SubsMay', WHERE WHAT IT READS IS OF BULK AT MOST 1048576: true; the input reads as it did. -/
def subsMayUptoRow : OpenClaim := { program := "ytohajcflklejjaagreat", sum := "3ab0b8f5144088021d3ca0eae724e1ac8312ef130816d41a80e38579dceafc32", func := "commonplace/commonplacelaw27.SubsMay", spec := "subsMay", inPlace := ["slices.overlaps[commonplace/api.Entry]", "slices.overlaps[*commonplace/node.Node]", "internal/bytealg.abigen_runtime_cmpstring"], unfollowed := true, recurses := true, apart := false, narrowed := true }
def SubsMayUptoSaid : Prop := subsMayUptoRow.holds Tryz.pinned (OpenSpec.upto subsMaySpec)

/-- 'commonplacelaw27.SubsOwn', WHERE WHAT IT READS IS OF BULK AT MOST 1048576: true; the input reads as it did. -/
def subsOwnUptoRow : OpenClaim := { program := "ytohajcflklejjaagreat", sum := "3ab0b8f5144088021d3ca0eae724e1ac8312ef130816d41a80e38579dceafc32", func := "commonplace/commonplacelaw27.SubsOwn", spec := "subsOwn", inPlace := ["slices.overlaps[commonplace/api.Entry]", "slices.overlaps[*commonplace/node.Node]", "internal/bytealg.abigen_runtime_cmpstring"], unfollowed := true, recurses := true, apart := false, narrowed := true }
def SubsOwnUptoSaid : Prop := subsOwnUptoRow.holds Tryz.pinned (OpenSpec.upto subsOwnSpec)

/-- 'commonplacelaw27.SubsNil', WHERE WHAT IT READS IS OF BULK AT MOST 1048576: true; the input reads as it did. -/
def subsNilUptoRow : OpenClaim := { program := "ytohajcflklejjaagreat", sum := "3ab0b8f5144088021d3ca0eae724e1ac8312ef130816d41a80e38579dceafc32", func := "commonplace/commonplacelaw27.SubsNil", spec := "subsNil", inPlace := ["slices.overlaps[commonplace/api.Entry]", "slices.overlaps[*commonplace/node.Node]", "internal/bytealg.abigen_runtime_cmpstring"], unfollowed := true, recurses := true, apart := false, narrowed := true }
def SubsNilUptoSaid : Prop := subsNilUptoRow.holds Tryz.pinned (OpenSpec.upto subsNilSpec)

/-- 'commonplacelaw27.SubsFolds', WHERE WHAT IT READS IS OF BULK AT MOST 1048576: true; the input reads as it did. -/
def subsFoldsUptoRow : OpenClaim := { program := "ytohajcflklejjaagreat", sum := "3ab0b8f5144088021d3ca0eae724e1ac8312ef130816d41a80e38579dceafc32", func := "commonplace/commonplacelaw27.SubsFolds", spec := "subsFolds", inPlace := ["slices.overlaps[commonplace/api.Entry]", "slices.overlaps[*commonplace/node.Node]", "internal/bytealg.abigen_runtime_cmpstring"], unfollowed := true, recurses := true, loops := true, apart := false, narrowed := true }
def SubsFoldsUptoSaid : Prop := subsFoldsUptoRow.holds Tryz.pinned (OpenSpec.upto subsFoldsSpec)

/-- 'commonplacelaw27.SubsApart', WHERE WHAT IT READS IS OF BULK AT MOST 1048576: true; the input reads as it did. -/
def subsApartUptoRow : OpenClaim := { program := "ytohajcflklejjaagreat", sum := "3ab0b8f5144088021d3ca0eae724e1ac8312ef130816d41a80e38579dceafc32", func := "commonplace/commonplacelaw27.SubsApart", spec := "subsApart", inPlace := ["slices.overlaps[commonplace/api.Entry]", "slices.overlaps[*commonplace/node.Node]", "internal/bytealg.abigen_runtime_cmpstring"], unfollowed := true, recurses := true, loops := true, apart := false, narrowed := true }
def SubsApartUptoSaid : Prop := subsApartUptoRow.holds Tryz.pinned (OpenSpec.upto subsApartSpec)

/-- 'commonplacelaw27.SubsPrefix', WHERE WHAT IT READS IS OF BULK AT MOST 1048576: true; the input reads as it did. -/
def subsPrefixUptoRow : OpenClaim := { program := "ytohajcflklejjaagreat", sum := "3ab0b8f5144088021d3ca0eae724e1ac8312ef130816d41a80e38579dceafc32", func := "commonplace/commonplacelaw27.SubsPrefix", spec := "subsPrefix", inPlace := ["slices.overlaps[commonplace/api.Entry]", "slices.overlaps[*commonplace/node.Node]", "internal/bytealg.abigen_runtime_cmpstring"], unfollowed := true, recurses := true, loops := true, apart := false, narrowed := true }
def SubsPrefixUptoSaid : Prop := subsPrefixUptoRow.holds Tryz.pinned (OpenSpec.upto subsPrefixSpec)

/-- 'commonplacelaw27.SubsPlays', WHERE WHAT IT READS IS OF BULK AT MOST 1048576: true; the input reads as it did. -/
def subsPlaysUptoRow : OpenClaim := { program := "ytohajcflklejjaagreat", sum := "3ab0b8f5144088021d3ca0eae724e1ac8312ef130816d41a80e38579dceafc32", func := "commonplace/commonplacelaw27.SubsPlays", spec := "subsPlays", inPlace := ["slices.overlaps[commonplace/api.Entry]", "slices.overlaps[*commonplace/node.Node]", "internal/bytealg.abigen_runtime_cmpstring"], unfollowed := true, recurses := true, loops := true, apart := false, narrowed := true }
def SubsPlaysUptoSaid : Prop := subsPlaysUptoRow.holds Tryz.pinned (OpenSpec.upto subsPlaysSpec)

/-- 'commonplacelaw27.SubsCalm', WHERE WHAT IT READS IS OF BULK AT MOST 1048576: true; the input reads as it did. -/
def subsCalmUptoRow : OpenClaim := { program := "ytohajcflklejjaagreat", sum := "3ab0b8f5144088021d3ca0eae724e1ac8312ef130816d41a80e38579dceafc32", func := "commonplace/commonplacelaw27.SubsCalm", spec := "subsCalm", inPlace := ["slices.overlaps[commonplace/api.Entry]", "slices.overlaps[*commonplace/node.Node]", "internal/bytealg.abigen_runtime_cmpstring"], unfollowed := true, recurses := true, loops := true, apart := false, narrowed := true }
def SubsCalmUptoSaid : Prop := subsCalmUptoRow.holds Tryz.pinned (OpenSpec.upto subsCalmSpec)

end Rows
end Go.Proofs.YtohajcflklejjaaGreat

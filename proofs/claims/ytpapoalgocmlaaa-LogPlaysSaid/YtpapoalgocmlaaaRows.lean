/-
  NARROWER THAN 'FOR EVERY INPUT', by the rows' own cells (each row's printed sentence says how): TreePlays: loops · TreeKeeps: loops · ScanRange: loops · ScanPrefix: loops · ScanRank: loops · ScanAt: loops · TreeShares: loops · ScanAll: loops · TreeOf: loops · TreeSame: loops · DiffNone: loops · DiffTells: loops · DiffEarly: loops · DiffApplies: loops.
  DERIVED. THE GIVEN ROWS OF THIS SEAT. 24 by the template 'for every input the law returns true; each argument reads behind the call as it read before'; 0 by the template 'total and deterministic' (their statements: YtpapoalgocmlaaaTotals.lean).
  GIVEN WITH THE SEED: the statements are not yours to turn. If you find one false, say at which input.
  Laid BY PROGRAM, IN A SANDBOX (cutbox-rows.mjs): the forced cells as the released guide's own fill.sh prints them over the translation 56ff42305d0d1c75… (all of the seat's roots in one cut). By AI agents, Wed Nov 11 2026. No macro, syntax, notation, axiom, sorry.
-/
import Derived.Test.YtpapoalgocmlaaaChecked
import GoSem.Claim
import GoSem.ClaimJoined
import GoSem.ClaimMapViews
import Derived.JoinedTies
import Derived.KernelRfl
namespace Go.Proofs.Ytpapoalgocmlaaa
/- THE CELL 'sum', in the pinned program and in every row, IS THE sha256 OF THE DUMP (.gsa) THAT YtpapoalgocmlaaaProg.lean LOADS. Nothing in Lean hashes anything: it is a label: what it is worth is what the hold of that sum in a sandbox is worth. -/
noncomputable def Try.pinned : Pinned := { name := "ytpapoalgocmlaaa", sum := "56ff42305d0d1c7578b6a5ce39e6d436361d0dce3bc555db7eda75bb111c4b81", checked := Try.checked }
namespace Rows
def none {H : Type} : Left H := { results := [], args := [] }

/-- 'commonplacelaw19.LogPuts': WHATEVER THE INPUT: true; the input reads as it did. -/
def logPutsSpec : ChangeSpec := { name := "logPuts", fn := fun _ => fun
  | [d1, d2] => { results := [.lit (.bool true)], args := [d1, d2] }
  | _ => none }
def logPutsRow : OpenClaim := { program := "ytpapoalgocmlaaa", sum := "56ff42305d0d1c7578b6a5ce39e6d436361d0dce3bc555db7eda75bb111c4b81", func := "commonplace/commonplacelaw19.LogPuts", spec := "logPuts", inPlace := ["slices.overlaps[commonplace/api.Entry]", "slices.overlaps[*commonplace/node.Node]"], unfollowed := true, recurses := true, apart := false }
def LogPutsSaid : Prop := logPutsRow.holds Try.pinned (OpenSpec.ofChange logPutsSpec)

/-- ITS FALSE NEIGHBOUR: 'it returns false'. Refute it at one input. -/
def logPutsWrong : ChangeSpec := { name := "logPuts", fn := fun _ => fun
  | [d1, d2] => { results := [.lit (.bool false)], args := [d1, d2] }
  | _ => none }
def LogPutsWrongFalsely : Prop := logPutsRow.holds Try.pinned (OpenSpec.ofChange logPutsWrong)

/-- 'commonplacelaw19.LogKeeps': WHATEVER THE INPUT: true; the input reads as it did. -/
def logKeepsSpec : ChangeSpec := { name := "logKeeps", fn := fun _ => fun
  | [d1, d2, d3] => { results := [.lit (.bool true)], args := [d1, d2, d3] }
  | _ => none }
def logKeepsRow : OpenClaim := { program := "ytpapoalgocmlaaa", sum := "56ff42305d0d1c7578b6a5ce39e6d436361d0dce3bc555db7eda75bb111c4b81", func := "commonplace/commonplacelaw19.LogKeeps", spec := "logKeeps", inPlace := ["slices.overlaps[commonplace/api.Entry]", "slices.overlaps[*commonplace/node.Node]"], unfollowed := true, recurses := true, apart := false }
def LogKeepsSaid : Prop := logKeepsRow.holds Try.pinned (OpenSpec.ofChange logKeepsSpec)

/-- ITS FALSE NEIGHBOUR: 'it returns false'. Refute it at one input. -/
def logKeepsWrong : ChangeSpec := { name := "logKeeps", fn := fun _ => fun
  | [d1, d2, d3] => { results := [.lit (.bool false)], args := [d1, d2, d3] }
  | _ => none }
def LogKeepsWrongFalsely : Prop := logKeepsRow.holds Try.pinned (OpenSpec.ofChange logKeepsWrong)

/-- 'commonplacelaw07.TreeOwn': WHATEVER THE INPUT: true; the input reads as it did. -/
def treeOwnSpec : ChangeSpec := { name := "treeOwn", fn := fun _ => fun
  | [d1, d2] => { results := [.lit (.bool true)], args := [d1, d2] }
  | _ => none }
def treeOwnRow : OpenClaim := { program := "ytpapoalgocmlaaa", sum := "56ff42305d0d1c7578b6a5ce39e6d436361d0dce3bc555db7eda75bb111c4b81", func := "commonplace/commonplacelaw07.TreeOwn", spec := "treeOwn", inPlace := ["slices.overlaps[commonplace/api.Entry]", "slices.overlaps[*commonplace/node.Node]"], unfollowed := true, recurses := true, apart := false }
def TreeOwnSaid : Prop := treeOwnRow.holds Try.pinned (OpenSpec.ofChange treeOwnSpec)

/-- ITS FALSE NEIGHBOUR: 'it returns false'. Refute it at one input. -/
def treeOwnWrong : ChangeSpec := { name := "treeOwn", fn := fun _ => fun
  | [d1, d2] => { results := [.lit (.bool false)], args := [d1, d2] }
  | _ => none }
def TreeOwnWrongFalsely : Prop := treeOwnRow.holds Try.pinned (OpenSpec.ofChange treeOwnWrong)

/-- 'commonplacelaw19.LogLeft': WHATEVER THE INPUT: true; the input reads as it did. -/
def logLeftSpec : ChangeSpec := { name := "logLeft", fn := fun _ => fun
  | [d1, d2, d3] => { results := [.lit (.bool true)], args := [d1, d2, d3] }
  | _ => none }
def logLeftRow : OpenClaim := { program := "ytpapoalgocmlaaa", sum := "56ff42305d0d1c7578b6a5ce39e6d436361d0dce3bc555db7eda75bb111c4b81", func := "commonplace/commonplacelaw19.LogLeft", spec := "logLeft", inPlace := ["slices.overlaps[commonplace/api.Entry]", "slices.overlaps[*commonplace/node.Node]"], unfollowed := true, recurses := true, apart := false }
def LogLeftSaid : Prop := logLeftRow.holds Try.pinned (OpenSpec.ofChange logLeftSpec)

/-- ITS FALSE NEIGHBOUR: 'it returns false'. Refute it at one input. -/
def logLeftWrong : ChangeSpec := { name := "logLeft", fn := fun _ => fun
  | [d1, d2, d3] => { results := [.lit (.bool false)], args := [d1, d2, d3] }
  | _ => none }
def LogLeftWrongFalsely : Prop := logLeftRow.holds Try.pinned (OpenSpec.ofChange logLeftWrong)

/-- 'commonplacelaw19.LogSince': WHATEVER THE INPUT: true; the input reads as it did. -/
def logSinceSpec : ChangeSpec := { name := "logSince", fn := fun _ => fun
  | [d1, d2, d3] => { results := [.lit (.bool true)], args := [d1, d2, d3] }
  | _ => none }
def logSinceRow : OpenClaim := { program := "ytpapoalgocmlaaa", sum := "56ff42305d0d1c7578b6a5ce39e6d436361d0dce3bc555db7eda75bb111c4b81", func := "commonplace/commonplacelaw19.LogSince", spec := "logSince", inPlace := ["slices.overlaps[commonplace/api.Entry]", "slices.overlaps[*commonplace/node.Node]"], unfollowed := true, recurses := true, apart := false }
def LogSinceSaid : Prop := logSinceRow.holds Try.pinned (OpenSpec.ofChange logSinceSpec)

/-- ITS FALSE NEIGHBOUR: 'it returns false'. Refute it at one input. -/
def logSinceWrong : ChangeSpec := { name := "logSince", fn := fun _ => fun
  | [d1, d2, d3] => { results := [.lit (.bool false)], args := [d1, d2, d3] }
  | _ => none }
def LogSinceWrongFalsely : Prop := logSinceRow.holds Try.pinned (OpenSpec.ofChange logSinceWrong)

/-- 'commonplacelaw19.LogNil': WHATEVER THE INPUT: true; the input reads as it did. -/
def logNilSpec : ChangeSpec := { name := "logNil", fn := fun _ => fun
  | [] => { results := [.lit (.bool true)], args := [] }
  | _ => none }
def logNilRow : OpenClaim := { program := "ytpapoalgocmlaaa", sum := "56ff42305d0d1c7578b6a5ce39e6d436361d0dce3bc555db7eda75bb111c4b81", func := "commonplace/commonplacelaw19.LogNil", spec := "logNil", inPlace := ["slices.overlaps[commonplace/api.Entry]", "slices.overlaps[*commonplace/node.Node]"], unfollowed := true, recurses := true, apart := false }
def LogNilSaid : Prop := logNilRow.holds Try.pinned (OpenSpec.ofChange logNilSpec)

/-- ITS FALSE NEIGHBOUR: 'it returns false'. Refute it at one input. -/
def logNilWrong : ChangeSpec := { name := "logNil", fn := fun _ => fun
  | [] => { results := [.lit (.bool false)], args := [] }
  | _ => none }
def LogNilWrongFalsely : Prop := logNilRow.holds Try.pinned (OpenSpec.ofChange logNilWrong)

/-- 'commonplacelaw19.LogPlays': WHATEVER THE INPUT: true; the input reads as it did. -/
def logPlaysSpec : ChangeSpec := { name := "logPlays", fn := fun _ => fun
  | [d1, d2] => { results := [.lit (.bool true)], args := [d1, d2] }
  | _ => none }
def logPlaysRow : OpenClaim := { program := "ytpapoalgocmlaaa", sum := "56ff42305d0d1c7578b6a5ce39e6d436361d0dce3bc555db7eda75bb111c4b81", func := "commonplace/commonplacelaw19.LogPlays", spec := "logPlays", inPlace := ["slices.overlaps[commonplace/api.Entry]", "slices.overlaps[*commonplace/node.Node]"], unfollowed := true, recurses := true, apart := false }
def LogPlaysSaid : Prop := logPlaysRow.holds Try.pinned (OpenSpec.ofChange logPlaysSpec)

/-- ITS FALSE NEIGHBOUR: 'it returns false'. Refute it at one input. -/
def logPlaysWrong : ChangeSpec := { name := "logPlays", fn := fun _ => fun
  | [d1, d2] => { results := [.lit (.bool false)], args := [d1, d2] }
  | _ => none }
def LogPlaysWrongFalsely : Prop := logPlaysRow.holds Try.pinned (OpenSpec.ofChange logPlaysWrong)

/-- 'commonplacelaw07.TreePlays': WHATEVER THE INPUT: true; the input reads as it did. -/
def treePlaysSpec : ChangeSpec := { name := "treePlays", fn := fun _ => fun
  | [d] => { results := [.lit (.bool true)], args := [d] }
  | _ => none }
def treePlaysRow : OpenClaim := { program := "ytpapoalgocmlaaa", sum := "56ff42305d0d1c7578b6a5ce39e6d436361d0dce3bc555db7eda75bb111c4b81", func := "commonplace/commonplacelaw07.TreePlays", spec := "treePlays", inPlace := ["slices.overlaps[commonplace/api.Entry]", "slices.overlaps[*commonplace/node.Node]"], unfollowed := true, recurses := true, loops := true, apart := false }
def TreePlaysSaid : Prop := treePlaysRow.holds Try.pinned (OpenSpec.ofChange treePlaysSpec)

/-- ITS FALSE NEIGHBOUR: 'it returns false'. Refute it at one input. -/
def treePlaysWrong : ChangeSpec := { name := "treePlays", fn := fun _ => fun
  | [d] => { results := [.lit (.bool false)], args := [d] }
  | _ => none }
def TreePlaysWrongFalsely : Prop := treePlaysRow.holds Try.pinned (OpenSpec.ofChange treePlaysWrong)

/-- 'commonplacelaw07.TreeKeeps': WHATEVER THE INPUT: true; the input reads as it did. -/
def treeKeepsSpec : ChangeSpec := { name := "treeKeeps", fn := fun _ => fun
  | [d1, d2] => { results := [.lit (.bool true)], args := [d1, d2] }
  | _ => none }
def treeKeepsRow : OpenClaim := { program := "ytpapoalgocmlaaa", sum := "56ff42305d0d1c7578b6a5ce39e6d436361d0dce3bc555db7eda75bb111c4b81", func := "commonplace/commonplacelaw07.TreeKeeps", spec := "treeKeeps", inPlace := ["slices.overlaps[commonplace/api.Entry]", "slices.overlaps[*commonplace/node.Node]"], unfollowed := true, recurses := true, loops := true, apart := false }
def TreeKeepsSaid : Prop := treeKeepsRow.holds Try.pinned (OpenSpec.ofChange treeKeepsSpec)

/-- ITS FALSE NEIGHBOUR: 'it returns false'. Refute it at one input. -/
def treeKeepsWrong : ChangeSpec := { name := "treeKeeps", fn := fun _ => fun
  | [d1, d2] => { results := [.lit (.bool false)], args := [d1, d2] }
  | _ => none }
def TreeKeepsWrongFalsely : Prop := treeKeepsRow.holds Try.pinned (OpenSpec.ofChange treeKeepsWrong)

/-- 'commonplacelaw08.ScanRange': WHATEVER THE INPUT: true; the input reads as it did. -/
def scanRangeSpec : ChangeSpec := { name := "scanRange", fn := fun _ => fun
  | [d1, d2, d3, d4, d5] => { results := [.lit (.bool true)], args := [d1, d2, d3, d4, d5] }
  | _ => none }
def scanRangeRow : OpenClaim := { program := "ytpapoalgocmlaaa", sum := "56ff42305d0d1c7578b6a5ce39e6d436361d0dce3bc555db7eda75bb111c4b81", func := "commonplace/commonplacelaw08.ScanRange", spec := "scanRange", inPlace := ["slices.overlaps[commonplace/api.Entry]", "slices.overlaps[*commonplace/node.Node]"], unfollowed := true, recurses := true, loops := true, apart := false }
def ScanRangeSaid : Prop := scanRangeRow.holds Try.pinned (OpenSpec.ofChange scanRangeSpec)

/-- ITS FALSE NEIGHBOUR: 'it returns false'. Refute it at one input. -/
def scanRangeWrong : ChangeSpec := { name := "scanRange", fn := fun _ => fun
  | [d1, d2, d3, d4, d5] => { results := [.lit (.bool false)], args := [d1, d2, d3, d4, d5] }
  | _ => none }
def ScanRangeWrongFalsely : Prop := scanRangeRow.holds Try.pinned (OpenSpec.ofChange scanRangeWrong)

/-- 'commonplacelaw08.ScanPrefix': WHATEVER THE INPUT: true; the input reads as it did. -/
def scanPrefixSpec : ChangeSpec := { name := "scanPrefix", fn := fun _ => fun
  | [d1, d2] => { results := [.lit (.bool true)], args := [d1, d2] }
  | _ => none }
def scanPrefixRow : OpenClaim := { program := "ytpapoalgocmlaaa", sum := "56ff42305d0d1c7578b6a5ce39e6d436361d0dce3bc555db7eda75bb111c4b81", func := "commonplace/commonplacelaw08.ScanPrefix", spec := "scanPrefix", inPlace := ["slices.overlaps[commonplace/api.Entry]", "slices.overlaps[*commonplace/node.Node]"], unfollowed := true, recurses := true, loops := true, apart := false }
def ScanPrefixSaid : Prop := scanPrefixRow.holds Try.pinned (OpenSpec.ofChange scanPrefixSpec)

/-- ITS FALSE NEIGHBOUR: 'it returns false'. Refute it at one input. -/
def scanPrefixWrong : ChangeSpec := { name := "scanPrefix", fn := fun _ => fun
  | [d1, d2] => { results := [.lit (.bool false)], args := [d1, d2] }
  | _ => none }
def ScanPrefixWrongFalsely : Prop := scanPrefixRow.holds Try.pinned (OpenSpec.ofChange scanPrefixWrong)

/-- 'commonplacelaw08.ScanRank': WHATEVER THE INPUT: true; the input reads as it did. -/
def scanRankSpec : ChangeSpec := { name := "scanRank", fn := fun _ => fun
  | [d1, d2] => { results := [.lit (.bool true)], args := [d1, d2] }
  | _ => none }
def scanRankRow : OpenClaim := { program := "ytpapoalgocmlaaa", sum := "56ff42305d0d1c7578b6a5ce39e6d436361d0dce3bc555db7eda75bb111c4b81", func := "commonplace/commonplacelaw08.ScanRank", spec := "scanRank", inPlace := ["slices.overlaps[commonplace/api.Entry]", "slices.overlaps[*commonplace/node.Node]"], unfollowed := true, recurses := true, loops := true, apart := false }
def ScanRankSaid : Prop := scanRankRow.holds Try.pinned (OpenSpec.ofChange scanRankSpec)

/-- ITS FALSE NEIGHBOUR: 'it returns false'. Refute it at one input. -/
def scanRankWrong : ChangeSpec := { name := "scanRank", fn := fun _ => fun
  | [d1, d2] => { results := [.lit (.bool false)], args := [d1, d2] }
  | _ => none }
def ScanRankWrongFalsely : Prop := scanRankRow.holds Try.pinned (OpenSpec.ofChange scanRankWrong)

/-- 'commonplacelaw08.ScanAt': WHATEVER THE INPUT: true; the input reads as it did. -/
def scanAtSpec : ChangeSpec := { name := "scanAt", fn := fun _ => fun
  | [d1, d2] => { results := [.lit (.bool true)], args := [d1, d2] }
  | _ => none }
def scanAtRow : OpenClaim := { program := "ytpapoalgocmlaaa", sum := "56ff42305d0d1c7578b6a5ce39e6d436361d0dce3bc555db7eda75bb111c4b81", func := "commonplace/commonplacelaw08.ScanAt", spec := "scanAt", inPlace := ["slices.overlaps[commonplace/api.Entry]", "slices.overlaps[*commonplace/node.Node]"], unfollowed := true, recurses := true, loops := true, apart := false }
def ScanAtSaid : Prop := scanAtRow.holds Try.pinned (OpenSpec.ofChange scanAtSpec)

/-- ITS FALSE NEIGHBOUR: 'it returns false'. Refute it at one input. -/
def scanAtWrong : ChangeSpec := { name := "scanAt", fn := fun _ => fun
  | [d1, d2] => { results := [.lit (.bool false)], args := [d1, d2] }
  | _ => none }
def ScanAtWrongFalsely : Prop := scanAtRow.holds Try.pinned (OpenSpec.ofChange scanAtWrong)

/-- 'commonplacelaw08.ScanOwn': WHATEVER THE INPUT: true; the input reads as it did. -/
def scanOwnSpec : ChangeSpec := { name := "scanOwn", fn := fun _ => fun
  | [d1, d2] => { results := [.lit (.bool true)], args := [d1, d2] }
  | _ => none }
def scanOwnRow : OpenClaim := { program := "ytpapoalgocmlaaa", sum := "56ff42305d0d1c7578b6a5ce39e6d436361d0dce3bc555db7eda75bb111c4b81", func := "commonplace/commonplacelaw08.ScanOwn", spec := "scanOwn", inPlace := ["slices.overlaps[commonplace/api.Entry]", "slices.overlaps[*commonplace/node.Node]"], unfollowed := true, recurses := true, apart := false }
def ScanOwnSaid : Prop := scanOwnRow.holds Try.pinned (OpenSpec.ofChange scanOwnSpec)

/-- ITS FALSE NEIGHBOUR: 'it returns false'. Refute it at one input. -/
def scanOwnWrong : ChangeSpec := { name := "scanOwn", fn := fun _ => fun
  | [d1, d2] => { results := [.lit (.bool false)], args := [d1, d2] }
  | _ => none }
def ScanOwnWrongFalsely : Prop := scanOwnRow.holds Try.pinned (OpenSpec.ofChange scanOwnWrong)

/-- 'commonplacelaw08.ScanNone': WHATEVER THE INPUT: true; the input reads as it did. -/
def scanNoneSpec : ChangeSpec := { name := "scanNone", fn := fun _ => fun
  | [] => { results := [.lit (.bool true)], args := [] }
  | _ => none }
def scanNoneRow : OpenClaim := { program := "ytpapoalgocmlaaa", sum := "56ff42305d0d1c7578b6a5ce39e6d436361d0dce3bc555db7eda75bb111c4b81", func := "commonplace/commonplacelaw08.ScanNone", spec := "scanNone", inPlace := ["slices.overlaps[commonplace/api.Entry]", "slices.overlaps[*commonplace/node.Node]"], unfollowed := true, recurses := true, apart := false }
def ScanNoneSaid : Prop := scanNoneRow.holds Try.pinned (OpenSpec.ofChange scanNoneSpec)

/-- ITS FALSE NEIGHBOUR: 'it returns false'. Refute it at one input. -/
def scanNoneWrong : ChangeSpec := { name := "scanNone", fn := fun _ => fun
  | [] => { results := [.lit (.bool false)], args := [] }
  | _ => none }
def ScanNoneWrongFalsely : Prop := scanNoneRow.holds Try.pinned (OpenSpec.ofChange scanNoneWrong)

/-- 'commonplacelaw07.TreeShares': WHATEVER THE INPUT: true; the input reads as it did. -/
def treeSharesSpec : ChangeSpec := { name := "treeShares", fn := fun _ => fun
  | [d] => { results := [.lit (.bool true)], args := [d] }
  | _ => none }
def treeSharesRow : OpenClaim := { program := "ytpapoalgocmlaaa", sum := "56ff42305d0d1c7578b6a5ce39e6d436361d0dce3bc555db7eda75bb111c4b81", func := "commonplace/commonplacelaw07.TreeShares", spec := "treeShares", inPlace := ["slices.overlaps[commonplace/api.Entry]", "slices.overlaps[*commonplace/node.Node]"], unfollowed := true, recurses := true, loops := true, apart := false }
def TreeSharesSaid : Prop := treeSharesRow.holds Try.pinned (OpenSpec.ofChange treeSharesSpec)

/-- ITS FALSE NEIGHBOUR: 'it returns false'. Refute it at one input. -/
def treeSharesWrong : ChangeSpec := { name := "treeShares", fn := fun _ => fun
  | [d] => { results := [.lit (.bool false)], args := [d] }
  | _ => none }
def TreeSharesWrongFalsely : Prop := treeSharesRow.holds Try.pinned (OpenSpec.ofChange treeSharesWrong)

/-- 'commonplacelaw08.ScanAll': WHATEVER THE INPUT: true; the input reads as it did. -/
def scanAllSpec : ChangeSpec := { name := "scanAll", fn := fun _ => fun
  | [d] => { results := [.lit (.bool true)], args := [d] }
  | _ => none }
def scanAllRow : OpenClaim := { program := "ytpapoalgocmlaaa", sum := "56ff42305d0d1c7578b6a5ce39e6d436361d0dce3bc555db7eda75bb111c4b81", func := "commonplace/commonplacelaw08.ScanAll", spec := "scanAll", inPlace := ["slices.overlaps[commonplace/api.Entry]", "slices.overlaps[*commonplace/node.Node]"], unfollowed := true, recurses := true, loops := true, apart := false }
def ScanAllSaid : Prop := scanAllRow.holds Try.pinned (OpenSpec.ofChange scanAllSpec)

/-- ITS FALSE NEIGHBOUR: 'it returns false'. Refute it at one input. -/
def scanAllWrong : ChangeSpec := { name := "scanAll", fn := fun _ => fun
  | [d] => { results := [.lit (.bool false)], args := [d] }
  | _ => none }
def ScanAllWrongFalsely : Prop := scanAllRow.holds Try.pinned (OpenSpec.ofChange scanAllWrong)

/-- 'commonplacelaw07.TreeOf': WHATEVER THE INPUT: true; the input reads as it did. -/
def treeOfSpec : ChangeSpec := { name := "treeOf", fn := fun _ => fun
  | [d1, d2] => { results := [.lit (.bool true)], args := [d1, d2] }
  | _ => none }
def treeOfRow : OpenClaim := { program := "ytpapoalgocmlaaa", sum := "56ff42305d0d1c7578b6a5ce39e6d436361d0dce3bc555db7eda75bb111c4b81", func := "commonplace/commonplacelaw07.TreeOf", spec := "treeOf", inPlace := ["slices.overlaps[commonplace/api.Entry]", "slices.overlaps[*commonplace/node.Node]"], unfollowed := true, recurses := true, loops := true, apart := false }
def TreeOfSaid : Prop := treeOfRow.holds Try.pinned (OpenSpec.ofChange treeOfSpec)

/-- ITS FALSE NEIGHBOUR: 'it returns false'. Refute it at one input. -/
def treeOfWrong : ChangeSpec := { name := "treeOf", fn := fun _ => fun
  | [d1, d2] => { results := [.lit (.bool false)], args := [d1, d2] }
  | _ => none }
def TreeOfWrongFalsely : Prop := treeOfRow.holds Try.pinned (OpenSpec.ofChange treeOfWrong)

/-- 'commonplacelaw07.TreeSame': WHATEVER THE INPUT: true; the input reads as it did. -/
def treeSameSpec : ChangeSpec := { name := "treeSame", fn := fun _ => fun
  | [d1, d2] => { results := [.lit (.bool true)], args := [d1, d2] }
  | _ => none }
def treeSameRow : OpenClaim := { program := "ytpapoalgocmlaaa", sum := "56ff42305d0d1c7578b6a5ce39e6d436361d0dce3bc555db7eda75bb111c4b81", func := "commonplace/commonplacelaw07.TreeSame", spec := "treeSame", inPlace := ["slices.overlaps[commonplace/api.Entry]", "slices.overlaps[*commonplace/node.Node]", "internal/bytealg.abigen_runtime_cmpstring"], unfollowed := true, recurses := true, loops := true, apart := false }
def TreeSameSaid : Prop := treeSameRow.holds Try.pinned (OpenSpec.ofChange treeSameSpec)

/-- ITS FALSE NEIGHBOUR: 'it returns false'. Refute it at one input. -/
def treeSameWrong : ChangeSpec := { name := "treeSame", fn := fun _ => fun
  | [d1, d2] => { results := [.lit (.bool false)], args := [d1, d2] }
  | _ => none }
def TreeSameWrongFalsely : Prop := treeSameRow.holds Try.pinned (OpenSpec.ofChange treeSameWrong)

/-- 'commonplacelaw07.TreeNone': WHATEVER THE INPUT: true; the input reads as it did. -/
def treeNoneSpec : ChangeSpec := { name := "treeNone", fn := fun _ => fun
  | [] => { results := [.lit (.bool true)], args := [] }
  | _ => none }
def treeNoneRow : OpenClaim := { program := "ytpapoalgocmlaaa", sum := "56ff42305d0d1c7578b6a5ce39e6d436361d0dce3bc555db7eda75bb111c4b81", func := "commonplace/commonplacelaw07.TreeNone", spec := "treeNone", inPlace := ["slices.overlaps[commonplace/api.Entry]", "slices.overlaps[*commonplace/node.Node]", "internal/bytealg.abigen_runtime_cmpstring"], unfollowed := true, recurses := true, apart := false }
def TreeNoneSaid : Prop := treeNoneRow.holds Try.pinned (OpenSpec.ofChange treeNoneSpec)

/-- ITS FALSE NEIGHBOUR: 'it returns false'. Refute it at one input. -/
def treeNoneWrong : ChangeSpec := { name := "treeNone", fn := fun _ => fun
  | [] => { results := [.lit (.bool false)], args := [] }
  | _ => none }
def TreeNoneWrongFalsely : Prop := treeNoneRow.holds Try.pinned (OpenSpec.ofChange treeNoneWrong)

/-- 'commonplacelaw09.DiffNone': WHATEVER THE INPUT: true; the input reads as it did. -/
def diffNoneSpec : ChangeSpec := { name := "diffNone", fn := fun _ => fun
  | [d] => { results := [.lit (.bool true)], args := [d] }
  | _ => none }
def diffNoneRow : OpenClaim := { program := "ytpapoalgocmlaaa", sum := "56ff42305d0d1c7578b6a5ce39e6d436361d0dce3bc555db7eda75bb111c4b81", func := "commonplace/commonplacelaw09.DiffNone", spec := "diffNone", inPlace := ["slices.overlaps[commonplace/api.Entry]", "slices.overlaps[*commonplace/node.Node]", "internal/bytealg.abigen_runtime_cmpstring"], unfollowed := true, recurses := true, loops := true, apart := false }
def DiffNoneSaid : Prop := diffNoneRow.holds Try.pinned (OpenSpec.ofChange diffNoneSpec)

/-- ITS FALSE NEIGHBOUR: 'it returns false'. Refute it at one input. -/
def diffNoneWrong : ChangeSpec := { name := "diffNone", fn := fun _ => fun
  | [d] => { results := [.lit (.bool false)], args := [d] }
  | _ => none }
def DiffNoneWrongFalsely : Prop := diffNoneRow.holds Try.pinned (OpenSpec.ofChange diffNoneWrong)

/-- 'commonplacelaw09.DiffTells': WHATEVER THE INPUT: true; the input reads as it did. -/
def diffTellsSpec : ChangeSpec := { name := "diffTells", fn := fun _ => fun
  | [d1, d2, d3, d4] => { results := [.lit (.bool true)], args := [d1, d2, d3, d4] }
  | _ => none }
def diffTellsRow : OpenClaim := { program := "ytpapoalgocmlaaa", sum := "56ff42305d0d1c7578b6a5ce39e6d436361d0dce3bc555db7eda75bb111c4b81", func := "commonplace/commonplacelaw09.DiffTells", spec := "diffTells", inPlace := ["slices.overlaps[commonplace/api.Entry]", "slices.overlaps[*commonplace/node.Node]", "internal/bytealg.abigen_runtime_cmpstring"], unfollowed := true, recurses := true, loops := true, apart := false }
def DiffTellsSaid : Prop := diffTellsRow.holds Try.pinned (OpenSpec.ofChange diffTellsSpec)

/-- ITS FALSE NEIGHBOUR: 'it returns false'. Refute it at one input. -/
def diffTellsWrong : ChangeSpec := { name := "diffTells", fn := fun _ => fun
  | [d1, d2, d3, d4] => { results := [.lit (.bool false)], args := [d1, d2, d3, d4] }
  | _ => none }
def DiffTellsWrongFalsely : Prop := diffTellsRow.holds Try.pinned (OpenSpec.ofChange diffTellsWrong)

/-- 'commonplacelaw09.DiffEarly': WHATEVER THE INPUT: true; the input reads as it did. -/
def diffEarlySpec : ChangeSpec := { name := "diffEarly", fn := fun _ => fun
  | [d1, d2, d3] => { results := [.lit (.bool true)], args := [d1, d2, d3] }
  | _ => none }
def diffEarlyRow : OpenClaim := { program := "ytpapoalgocmlaaa", sum := "56ff42305d0d1c7578b6a5ce39e6d436361d0dce3bc555db7eda75bb111c4b81", func := "commonplace/commonplacelaw09.DiffEarly", spec := "diffEarly", inPlace := ["slices.overlaps[commonplace/api.Entry]", "slices.overlaps[*commonplace/node.Node]", "internal/bytealg.abigen_runtime_cmpstring"], unfollowed := true, recurses := true, loops := true, apart := false }
def DiffEarlySaid : Prop := diffEarlyRow.holds Try.pinned (OpenSpec.ofChange diffEarlySpec)

/-- ITS FALSE NEIGHBOUR: 'it returns false'. Refute it at one input. -/
def diffEarlyWrong : ChangeSpec := { name := "diffEarly", fn := fun _ => fun
  | [d1, d2, d3] => { results := [.lit (.bool false)], args := [d1, d2, d3] }
  | _ => none }
def DiffEarlyWrongFalsely : Prop := diffEarlyRow.holds Try.pinned (OpenSpec.ofChange diffEarlyWrong)

/-- 'commonplacelaw09.DiffApplies': WHATEVER THE INPUT: true; the input reads as it did. -/
def diffAppliesSpec : ChangeSpec := { name := "diffApplies", fn := fun _ => fun
  | [d1, d2] => { results := [.lit (.bool true)], args := [d1, d2] }
  | _ => none }
def diffAppliesRow : OpenClaim := { program := "ytpapoalgocmlaaa", sum := "56ff42305d0d1c7578b6a5ce39e6d436361d0dce3bc555db7eda75bb111c4b81", func := "commonplace/commonplacelaw09.DiffApplies", spec := "diffApplies", inPlace := ["slices.overlaps[commonplace/api.Entry]", "slices.overlaps[*commonplace/node.Node]", "internal/bytealg.abigen_runtime_cmpstring"], unfollowed := true, recurses := true, loops := true, apart := false }
def DiffAppliesSaid : Prop := diffAppliesRow.holds Try.pinned (OpenSpec.ofChange diffAppliesSpec)

/-- ITS FALSE NEIGHBOUR: 'it returns false'. Refute it at one input. -/
def diffAppliesWrong : ChangeSpec := { name := "diffApplies", fn := fun _ => fun
  | [d1, d2] => { results := [.lit (.bool false)], args := [d1, d2] }
  | _ => none }
def DiffAppliesWrongFalsely : Prop := diffAppliesRow.holds Try.pinned (OpenSpec.ofChange diffAppliesWrong)

/- THE SECOND FORM. 'bulk': how many values and letters a reading holds, each counted each time it is reached (what is shared counts as often as it is met; a slice's spare places count too). A statement '..UptoSaid' is the law's where the arguments, and the package variables that the reading takes, are together of bulk at most 1048576: NARROWER than '..Said'. Prove '..Said' where nothing that the law and all that it calls make is longer than what came in: it says more and counts as full. Else prove '..UptoSaid'. A law counts once. -/
mutual
def uptoBulk {H : Type} : DataW H → Nat
  | .lit (.string bytes) => bytes.length + 1
  | .lit _ => 1
  | .nil => 1
  | .ptr d => uptoBulk d + 1
  | .slice elems spare => uptoBulkAll elems + uptoBulkAll spare + 1
  | .agg parts => uptoBulkAll parts + 1
  | .iface _ d => uptoBulk d + 1
  | .map entries => uptoBulkEntries entries + 1
  | .held _ => 1
def uptoBulkAll {H : Type} : List (DataW H) → Nat
  | [] => 0
  | d :: r => uptoBulk d + uptoBulkAll r
def uptoBulkEntries {H : Type} : List (Lit × DataW H) → Nat
  | [] => 0
  | x :: r => uptoBulkEntry x + uptoBulkEntries r
def uptoBulkEntry {H : Type} : Lit × DataW H → Nat
  | (.string bytes, d) => bytes.length + uptoBulk d + 1
  | (_, d) => uptoBulk d + 1
 end
def uptoSmall : (H : Type) → List (DataW H) → Bool := fun _ ds => decide (uptoBulkAll ds ≤ 1048576)
def OpenSpec.upto (s : _root_.Go.ChangeSpec) : _root_.Go.OpenSpec := { _root_.Go.OpenSpec.ofChange s with cond := some uptoSmall }

/-- 'commonplacelaw19.LogPuts', WHERE WHAT IT READS IS OF BULK AT MOST 1048576: true; the input reads as it did. -/
def logPutsUptoRow : OpenClaim := { program := "ytpapoalgocmlaaa", sum := "56ff42305d0d1c7578b6a5ce39e6d436361d0dce3bc555db7eda75bb111c4b81", func := "commonplace/commonplacelaw19.LogPuts", spec := "logPuts", inPlace := ["slices.overlaps[commonplace/api.Entry]", "slices.overlaps[*commonplace/node.Node]"], unfollowed := true, recurses := true, apart := false, narrowed := true }
def LogPutsUptoSaid : Prop := logPutsUptoRow.holds Try.pinned (OpenSpec.upto logPutsSpec)

/-- 'commonplacelaw19.LogKeeps', WHERE WHAT IT READS IS OF BULK AT MOST 1048576: true; the input reads as it did. -/
def logKeepsUptoRow : OpenClaim := { program := "ytpapoalgocmlaaa", sum := "56ff42305d0d1c7578b6a5ce39e6d436361d0dce3bc555db7eda75bb111c4b81", func := "commonplace/commonplacelaw19.LogKeeps", spec := "logKeeps", inPlace := ["slices.overlaps[commonplace/api.Entry]", "slices.overlaps[*commonplace/node.Node]"], unfollowed := true, recurses := true, apart := false, narrowed := true }
def LogKeepsUptoSaid : Prop := logKeepsUptoRow.holds Try.pinned (OpenSpec.upto logKeepsSpec)

/-- 'commonplacelaw07.TreeOwn', WHERE WHAT IT READS IS OF BULK AT MOST 1048576: true; the input reads as it did. -/
def treeOwnUptoRow : OpenClaim := { program := "ytpapoalgocmlaaa", sum := "56ff42305d0d1c7578b6a5ce39e6d436361d0dce3bc555db7eda75bb111c4b81", func := "commonplace/commonplacelaw07.TreeOwn", spec := "treeOwn", inPlace := ["slices.overlaps[commonplace/api.Entry]", "slices.overlaps[*commonplace/node.Node]"], unfollowed := true, recurses := true, apart := false, narrowed := true }
def TreeOwnUptoSaid : Prop := treeOwnUptoRow.holds Try.pinned (OpenSpec.upto treeOwnSpec)

/-- 'commonplacelaw19.LogLeft', WHERE WHAT IT READS IS OF BULK AT MOST 1048576: true; the input reads as it did. -/
def logLeftUptoRow : OpenClaim := { program := "ytpapoalgocmlaaa", sum := "56ff42305d0d1c7578b6a5ce39e6d436361d0dce3bc555db7eda75bb111c4b81", func := "commonplace/commonplacelaw19.LogLeft", spec := "logLeft", inPlace := ["slices.overlaps[commonplace/api.Entry]", "slices.overlaps[*commonplace/node.Node]"], unfollowed := true, recurses := true, apart := false, narrowed := true }
def LogLeftUptoSaid : Prop := logLeftUptoRow.holds Try.pinned (OpenSpec.upto logLeftSpec)

/-- 'commonplacelaw19.LogSince', WHERE WHAT IT READS IS OF BULK AT MOST 1048576: true; the input reads as it did. -/
def logSinceUptoRow : OpenClaim := { program := "ytpapoalgocmlaaa", sum := "56ff42305d0d1c7578b6a5ce39e6d436361d0dce3bc555db7eda75bb111c4b81", func := "commonplace/commonplacelaw19.LogSince", spec := "logSince", inPlace := ["slices.overlaps[commonplace/api.Entry]", "slices.overlaps[*commonplace/node.Node]"], unfollowed := true, recurses := true, apart := false, narrowed := true }
def LogSinceUptoSaid : Prop := logSinceUptoRow.holds Try.pinned (OpenSpec.upto logSinceSpec)

/-- 'commonplacelaw19.LogNil', WHERE WHAT IT READS IS OF BULK AT MOST 1048576: true; the input reads as it did. -/
def logNilUptoRow : OpenClaim := { program := "ytpapoalgocmlaaa", sum := "56ff42305d0d1c7578b6a5ce39e6d436361d0dce3bc555db7eda75bb111c4b81", func := "commonplace/commonplacelaw19.LogNil", spec := "logNil", inPlace := ["slices.overlaps[commonplace/api.Entry]", "slices.overlaps[*commonplace/node.Node]"], unfollowed := true, recurses := true, apart := false, narrowed := true }
def LogNilUptoSaid : Prop := logNilUptoRow.holds Try.pinned (OpenSpec.upto logNilSpec)

/-- 'commonplacelaw19.LogPlays', WHERE WHAT IT READS IS OF BULK AT MOST 1048576: true; the input reads as it did. -/
def logPlaysUptoRow : OpenClaim := { program := "ytpapoalgocmlaaa", sum := "56ff42305d0d1c7578b6a5ce39e6d436361d0dce3bc555db7eda75bb111c4b81", func := "commonplace/commonplacelaw19.LogPlays", spec := "logPlays", inPlace := ["slices.overlaps[commonplace/api.Entry]", "slices.overlaps[*commonplace/node.Node]"], unfollowed := true, recurses := true, apart := false, narrowed := true }
def LogPlaysUptoSaid : Prop := logPlaysUptoRow.holds Try.pinned (OpenSpec.upto logPlaysSpec)

/-- 'commonplacelaw07.TreePlays', WHERE WHAT IT READS IS OF BULK AT MOST 1048576: true; the input reads as it did. -/
def treePlaysUptoRow : OpenClaim := { program := "ytpapoalgocmlaaa", sum := "56ff42305d0d1c7578b6a5ce39e6d436361d0dce3bc555db7eda75bb111c4b81", func := "commonplace/commonplacelaw07.TreePlays", spec := "treePlays", inPlace := ["slices.overlaps[commonplace/api.Entry]", "slices.overlaps[*commonplace/node.Node]"], unfollowed := true, recurses := true, loops := true, apart := false, narrowed := true }
def TreePlaysUptoSaid : Prop := treePlaysUptoRow.holds Try.pinned (OpenSpec.upto treePlaysSpec)

/-- 'commonplacelaw07.TreeKeeps', WHERE WHAT IT READS IS OF BULK AT MOST 1048576: true; the input reads as it did. -/
def treeKeepsUptoRow : OpenClaim := { program := "ytpapoalgocmlaaa", sum := "56ff42305d0d1c7578b6a5ce39e6d436361d0dce3bc555db7eda75bb111c4b81", func := "commonplace/commonplacelaw07.TreeKeeps", spec := "treeKeeps", inPlace := ["slices.overlaps[commonplace/api.Entry]", "slices.overlaps[*commonplace/node.Node]"], unfollowed := true, recurses := true, loops := true, apart := false, narrowed := true }
def TreeKeepsUptoSaid : Prop := treeKeepsUptoRow.holds Try.pinned (OpenSpec.upto treeKeepsSpec)

/-- 'commonplacelaw08.ScanRange', WHERE WHAT IT READS IS OF BULK AT MOST 1048576: true; the input reads as it did. -/
def scanRangeUptoRow : OpenClaim := { program := "ytpapoalgocmlaaa", sum := "56ff42305d0d1c7578b6a5ce39e6d436361d0dce3bc555db7eda75bb111c4b81", func := "commonplace/commonplacelaw08.ScanRange", spec := "scanRange", inPlace := ["slices.overlaps[commonplace/api.Entry]", "slices.overlaps[*commonplace/node.Node]"], unfollowed := true, recurses := true, loops := true, apart := false, narrowed := true }
def ScanRangeUptoSaid : Prop := scanRangeUptoRow.holds Try.pinned (OpenSpec.upto scanRangeSpec)

/-- 'commonplacelaw08.ScanPrefix', WHERE WHAT IT READS IS OF BULK AT MOST 1048576: true; the input reads as it did. -/
def scanPrefixUptoRow : OpenClaim := { program := "ytpapoalgocmlaaa", sum := "56ff42305d0d1c7578b6a5ce39e6d436361d0dce3bc555db7eda75bb111c4b81", func := "commonplace/commonplacelaw08.ScanPrefix", spec := "scanPrefix", inPlace := ["slices.overlaps[commonplace/api.Entry]", "slices.overlaps[*commonplace/node.Node]"], unfollowed := true, recurses := true, loops := true, apart := false, narrowed := true }
def ScanPrefixUptoSaid : Prop := scanPrefixUptoRow.holds Try.pinned (OpenSpec.upto scanPrefixSpec)

/-- 'commonplacelaw08.ScanRank', WHERE WHAT IT READS IS OF BULK AT MOST 1048576: true; the input reads as it did. -/
def scanRankUptoRow : OpenClaim := { program := "ytpapoalgocmlaaa", sum := "56ff42305d0d1c7578b6a5ce39e6d436361d0dce3bc555db7eda75bb111c4b81", func := "commonplace/commonplacelaw08.ScanRank", spec := "scanRank", inPlace := ["slices.overlaps[commonplace/api.Entry]", "slices.overlaps[*commonplace/node.Node]"], unfollowed := true, recurses := true, loops := true, apart := false, narrowed := true }
def ScanRankUptoSaid : Prop := scanRankUptoRow.holds Try.pinned (OpenSpec.upto scanRankSpec)

/-- 'commonplacelaw08.ScanAt', WHERE WHAT IT READS IS OF BULK AT MOST 1048576: true; the input reads as it did. -/
def scanAtUptoRow : OpenClaim := { program := "ytpapoalgocmlaaa", sum := "56ff42305d0d1c7578b6a5ce39e6d436361d0dce3bc555db7eda75bb111c4b81", func := "commonplace/commonplacelaw08.ScanAt", spec := "scanAt", inPlace := ["slices.overlaps[commonplace/api.Entry]", "slices.overlaps[*commonplace/node.Node]"], unfollowed := true, recurses := true, loops := true, apart := false, narrowed := true }
def ScanAtUptoSaid : Prop := scanAtUptoRow.holds Try.pinned (OpenSpec.upto scanAtSpec)

/-- 'commonplacelaw08.ScanOwn', WHERE WHAT IT READS IS OF BULK AT MOST 1048576: true; the input reads as it did. -/
def scanOwnUptoRow : OpenClaim := { program := "ytpapoalgocmlaaa", sum := "56ff42305d0d1c7578b6a5ce39e6d436361d0dce3bc555db7eda75bb111c4b81", func := "commonplace/commonplacelaw08.ScanOwn", spec := "scanOwn", inPlace := ["slices.overlaps[commonplace/api.Entry]", "slices.overlaps[*commonplace/node.Node]"], unfollowed := true, recurses := true, apart := false, narrowed := true }
def ScanOwnUptoSaid : Prop := scanOwnUptoRow.holds Try.pinned (OpenSpec.upto scanOwnSpec)

/-- 'commonplacelaw08.ScanNone', WHERE WHAT IT READS IS OF BULK AT MOST 1048576: true; the input reads as it did. -/
def scanNoneUptoRow : OpenClaim := { program := "ytpapoalgocmlaaa", sum := "56ff42305d0d1c7578b6a5ce39e6d436361d0dce3bc555db7eda75bb111c4b81", func := "commonplace/commonplacelaw08.ScanNone", spec := "scanNone", inPlace := ["slices.overlaps[commonplace/api.Entry]", "slices.overlaps[*commonplace/node.Node]"], unfollowed := true, recurses := true, apart := false, narrowed := true }
def ScanNoneUptoSaid : Prop := scanNoneUptoRow.holds Try.pinned (OpenSpec.upto scanNoneSpec)

/-- 'commonplacelaw07.TreeShares', WHERE WHAT IT READS IS OF BULK AT MOST 1048576: true; the input reads as it did. -/
def treeSharesUptoRow : OpenClaim := { program := "ytpapoalgocmlaaa", sum := "56ff42305d0d1c7578b6a5ce39e6d436361d0dce3bc555db7eda75bb111c4b81", func := "commonplace/commonplacelaw07.TreeShares", spec := "treeShares", inPlace := ["slices.overlaps[commonplace/api.Entry]", "slices.overlaps[*commonplace/node.Node]"], unfollowed := true, recurses := true, loops := true, apart := false, narrowed := true }
def TreeSharesUptoSaid : Prop := treeSharesUptoRow.holds Try.pinned (OpenSpec.upto treeSharesSpec)

/-- 'commonplacelaw08.ScanAll', WHERE WHAT IT READS IS OF BULK AT MOST 1048576: true; the input reads as it did. -/
def scanAllUptoRow : OpenClaim := { program := "ytpapoalgocmlaaa", sum := "56ff42305d0d1c7578b6a5ce39e6d436361d0dce3bc555db7eda75bb111c4b81", func := "commonplace/commonplacelaw08.ScanAll", spec := "scanAll", inPlace := ["slices.overlaps[commonplace/api.Entry]", "slices.overlaps[*commonplace/node.Node]"], unfollowed := true, recurses := true, loops := true, apart := false, narrowed := true }
def ScanAllUptoSaid : Prop := scanAllUptoRow.holds Try.pinned (OpenSpec.upto scanAllSpec)

/-- 'commonplacelaw07.TreeOf', WHERE WHAT IT READS IS OF BULK AT MOST 1048576: true; the input reads as it did. -/
def treeOfUptoRow : OpenClaim := { program := "ytpapoalgocmlaaa", sum := "56ff42305d0d1c7578b6a5ce39e6d436361d0dce3bc555db7eda75bb111c4b81", func := "commonplace/commonplacelaw07.TreeOf", spec := "treeOf", inPlace := ["slices.overlaps[commonplace/api.Entry]", "slices.overlaps[*commonplace/node.Node]"], unfollowed := true, recurses := true, loops := true, apart := false, narrowed := true }
def TreeOfUptoSaid : Prop := treeOfUptoRow.holds Try.pinned (OpenSpec.upto treeOfSpec)

/-- 'commonplacelaw07.TreeSame', WHERE WHAT IT READS IS OF BULK AT MOST 1048576: true; the input reads as it did. -/
def treeSameUptoRow : OpenClaim := { program := "ytpapoalgocmlaaa", sum := "56ff42305d0d1c7578b6a5ce39e6d436361d0dce3bc555db7eda75bb111c4b81", func := "commonplace/commonplacelaw07.TreeSame", spec := "treeSame", inPlace := ["slices.overlaps[commonplace/api.Entry]", "slices.overlaps[*commonplace/node.Node]", "internal/bytealg.abigen_runtime_cmpstring"], unfollowed := true, recurses := true, loops := true, apart := false, narrowed := true }
def TreeSameUptoSaid : Prop := treeSameUptoRow.holds Try.pinned (OpenSpec.upto treeSameSpec)

/-- 'commonplacelaw07.TreeNone', WHERE WHAT IT READS IS OF BULK AT MOST 1048576: true; the input reads as it did. -/
def treeNoneUptoRow : OpenClaim := { program := "ytpapoalgocmlaaa", sum := "56ff42305d0d1c7578b6a5ce39e6d436361d0dce3bc555db7eda75bb111c4b81", func := "commonplace/commonplacelaw07.TreeNone", spec := "treeNone", inPlace := ["slices.overlaps[commonplace/api.Entry]", "slices.overlaps[*commonplace/node.Node]", "internal/bytealg.abigen_runtime_cmpstring"], unfollowed := true, recurses := true, apart := false, narrowed := true }
def TreeNoneUptoSaid : Prop := treeNoneUptoRow.holds Try.pinned (OpenSpec.upto treeNoneSpec)

/-- 'commonplacelaw09.DiffNone', WHERE WHAT IT READS IS OF BULK AT MOST 1048576: true; the input reads as it did. -/
def diffNoneUptoRow : OpenClaim := { program := "ytpapoalgocmlaaa", sum := "56ff42305d0d1c7578b6a5ce39e6d436361d0dce3bc555db7eda75bb111c4b81", func := "commonplace/commonplacelaw09.DiffNone", spec := "diffNone", inPlace := ["slices.overlaps[commonplace/api.Entry]", "slices.overlaps[*commonplace/node.Node]", "internal/bytealg.abigen_runtime_cmpstring"], unfollowed := true, recurses := true, loops := true, apart := false, narrowed := true }
def DiffNoneUptoSaid : Prop := diffNoneUptoRow.holds Try.pinned (OpenSpec.upto diffNoneSpec)

/-- 'commonplacelaw09.DiffTells', WHERE WHAT IT READS IS OF BULK AT MOST 1048576: true; the input reads as it did. -/
def diffTellsUptoRow : OpenClaim := { program := "ytpapoalgocmlaaa", sum := "56ff42305d0d1c7578b6a5ce39e6d436361d0dce3bc555db7eda75bb111c4b81", func := "commonplace/commonplacelaw09.DiffTells", spec := "diffTells", inPlace := ["slices.overlaps[commonplace/api.Entry]", "slices.overlaps[*commonplace/node.Node]", "internal/bytealg.abigen_runtime_cmpstring"], unfollowed := true, recurses := true, loops := true, apart := false, narrowed := true }
def DiffTellsUptoSaid : Prop := diffTellsUptoRow.holds Try.pinned (OpenSpec.upto diffTellsSpec)

/-- 'commonplacelaw09.DiffEarly', WHERE WHAT IT READS IS OF BULK AT MOST 1048576: true; the input reads as it did. -/
def diffEarlyUptoRow : OpenClaim := { program := "ytpapoalgocmlaaa", sum := "56ff42305d0d1c7578b6a5ce39e6d436361d0dce3bc555db7eda75bb111c4b81", func := "commonplace/commonplacelaw09.DiffEarly", spec := "diffEarly", inPlace := ["slices.overlaps[commonplace/api.Entry]", "slices.overlaps[*commonplace/node.Node]", "internal/bytealg.abigen_runtime_cmpstring"], unfollowed := true, recurses := true, loops := true, apart := false, narrowed := true }
def DiffEarlyUptoSaid : Prop := diffEarlyUptoRow.holds Try.pinned (OpenSpec.upto diffEarlySpec)

/-- 'commonplacelaw09.DiffApplies', WHERE WHAT IT READS IS OF BULK AT MOST 1048576: true; the input reads as it did. -/
def diffAppliesUptoRow : OpenClaim := { program := "ytpapoalgocmlaaa", sum := "56ff42305d0d1c7578b6a5ce39e6d436361d0dce3bc555db7eda75bb111c4b81", func := "commonplace/commonplacelaw09.DiffApplies", spec := "diffApplies", inPlace := ["slices.overlaps[commonplace/api.Entry]", "slices.overlaps[*commonplace/node.Node]", "internal/bytealg.abigen_runtime_cmpstring"], unfollowed := true, recurses := true, loops := true, apart := false, narrowed := true }
def DiffAppliesUptoSaid : Prop := diffAppliesUptoRow.holds Try.pinned (OpenSpec.upto diffAppliesSpec)

end Rows
end Go.Proofs.Ytpapoalgocmlaaa

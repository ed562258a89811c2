/-
  No cell of these rows narrows 'for every input' (looked for: loops, veiled, ifaces, maps, wideKeys, modest, calm, conditions, laid).
  DERIVED. THE GIVEN ROWS OF THIS SEAT. 7 by the template 'for every input the law returns true; each argument reads behind the call as it read before'; 0 by the template 'total and deterministic' (their statements: YtpakolohhoegfaaTotals.lean).
  GIVEN WITH THE SEED: the statements are not yours to turn. If you find one false, say at which input.
  Laid BY PROGRAM, IN A SANDBOX (cutbox-rows.mjs): the forced cells as the released guide's own fill.sh prints them over the translation 7551130e49959ae7… (all of the seat's roots in one cut). By AI agents, Wed Nov 11 2026. No macro, syntax, notation, axiom, sorry.
-/
import Derived.Test.YtpakolohhoegfaaChecked
import GoSem.Claim
import GoSem.ClaimJoined
import GoSem.ClaimMapViews
import Derived.JoinedTies
import Derived.KernelRfl
namespace Go.Proofs.Ytpakolohhoegfaa
/- THE CELL 'sum', in the pinned program and in every row, IS THE sha256 OF THE DUMP (.gsa) THAT YtpakolohhoegfaaProg.lean LOADS. Nothing in Lean hashes anything: it is a label: what it is worth is what the hold of that sum in a sandbox is worth. -/
noncomputable def Try.pinned : Pinned := { name := "ytpakolohhoegfaa", sum := "7551130e49959ae79bc468f4b6857ad4da8d51c464b0fada7951c815be10524a", checked := Try.checked }
namespace Rows
def none {H : Type} : Left H := { results := [], args := [] }

/-- 'cressetlaw15.VersionPrunes': WHATEVER THE INPUT: true; the input reads as it did. -/
def versionPrunesSpec : ChangeSpec := { name := "versionPrunes", fn := fun _ => fun
  | [d1, d2, d3] => { results := [.lit (.bool true)], args := [d1, d2, d3] }
  | _ => none }
def versionPrunesRow : OpenClaim := { program := "ytpakolohhoegfaa", sum := "7551130e49959ae79bc468f4b6857ad4da8d51c464b0fada7951c815be10524a", func := "cresset/cressetlaw15.VersionPrunes", spec := "versionPrunes", unfollowed := true, recurses := true, apart := false }
def VersionPrunesSaid : Prop := versionPrunesRow.holds Try.pinned (OpenSpec.ofChange versionPrunesSpec)

/-- ITS FALSE NEIGHBOUR: 'it returns false'. Refute it at one input. -/
def versionPrunesWrong : ChangeSpec := { name := "versionPrunes", fn := fun _ => fun
  | [d1, d2, d3] => { results := [.lit (.bool false)], args := [d1, d2, d3] }
  | _ => none }
def VersionPrunesWrongFalsely : Prop := versionPrunesRow.holds Try.pinned (OpenSpec.ofChange versionPrunesWrong)

/-- 'cressetlaw15.VersionAsks': WHATEVER THE INPUT: true; the input reads as it did. -/
def versionAsksSpec : ChangeSpec := { name := "versionAsks", fn := fun _ => fun
  | [d1, d2, d3] => { results := [.lit (.bool true)], args := [d1, d2, d3] }
  | _ => none }
def versionAsksRow : OpenClaim := { program := "ytpakolohhoegfaa", sum := "7551130e49959ae79bc468f4b6857ad4da8d51c464b0fada7951c815be10524a", func := "cresset/cressetlaw15.VersionAsks", spec := "versionAsks", unfollowed := true, recurses := true, apart := false }
def VersionAsksSaid : Prop := versionAsksRow.holds Try.pinned (OpenSpec.ofChange versionAsksSpec)

/-- ITS FALSE NEIGHBOUR: 'it returns false'. Refute it at one input. -/
def versionAsksWrong : ChangeSpec := { name := "versionAsks", fn := fun _ => fun
  | [d1, d2, d3] => { results := [.lit (.bool false)], args := [d1, d2, d3] }
  | _ => none }
def VersionAsksWrongFalsely : Prop := versionAsksRow.holds Try.pinned (OpenSpec.ofChange versionAsksWrong)

/-- 'cressetlaw15.VersionChanges': WHATEVER THE INPUT: true; the input reads as it did. -/
def versionChangesSpec : ChangeSpec := { name := "versionChanges", fn := fun _ => fun
  | [d1, d2, d3] => { results := [.lit (.bool true)], args := [d1, d2, d3] }
  | _ => none }
def versionChangesRow : OpenClaim := { program := "ytpakolohhoegfaa", sum := "7551130e49959ae79bc468f4b6857ad4da8d51c464b0fada7951c815be10524a", func := "cresset/cressetlaw15.VersionChanges", spec := "versionChanges", unfollowed := true, recurses := true, apart := false }
def VersionChangesSaid : Prop := versionChangesRow.holds Try.pinned (OpenSpec.ofChange versionChangesSpec)

/-- ITS FALSE NEIGHBOUR: 'it returns false'. Refute it at one input. -/
def versionChangesWrong : ChangeSpec := { name := "versionChanges", fn := fun _ => fun
  | [d1, d2, d3] => { results := [.lit (.bool false)], args := [d1, d2, d3] }
  | _ => none }
def VersionChangesWrongFalsely : Prop := versionChangesRow.holds Try.pinned (OpenSpec.ofChange versionChangesWrong)

/-- 'cressetlaw15.VersionOwn': WHATEVER THE INPUT: true; the input reads as it did. -/
def versionOwnSpec : ChangeSpec := { name := "versionOwn", fn := fun _ => fun
  | [d1, d2, d3] => { results := [.lit (.bool true)], args := [d1, d2, d3] }
  | _ => none }
def versionOwnRow : OpenClaim := { program := "ytpakolohhoegfaa", sum := "7551130e49959ae79bc468f4b6857ad4da8d51c464b0fada7951c815be10524a", func := "cresset/cressetlaw15.VersionOwn", spec := "versionOwn", unfollowed := true, recurses := true, apart := false }
def VersionOwnSaid : Prop := versionOwnRow.holds Try.pinned (OpenSpec.ofChange versionOwnSpec)

/-- ITS FALSE NEIGHBOUR: 'it returns false'. Refute it at one input. -/
def versionOwnWrong : ChangeSpec := { name := "versionOwn", fn := fun _ => fun
  | [d1, d2, d3] => { results := [.lit (.bool false)], args := [d1, d2, d3] }
  | _ => none }
def VersionOwnWrongFalsely : Prop := versionOwnRow.holds Try.pinned (OpenSpec.ofChange versionOwnWrong)

/-- 'cressetlaw15.VersionSees': WHATEVER THE INPUT: true; the input reads as it did. -/
def versionSeesSpec : ChangeSpec := { name := "versionSees", fn := fun _ => fun
  | [d1, d2] => { results := [.lit (.bool true)], args := [d1, d2] }
  | _ => none }
def versionSeesRow : OpenClaim := { program := "ytpakolohhoegfaa", sum := "7551130e49959ae79bc468f4b6857ad4da8d51c464b0fada7951c815be10524a", func := "cresset/cressetlaw15.VersionSees", spec := "versionSees", unfollowed := true, recurses := true, apart := false }
def VersionSeesSaid : Prop := versionSeesRow.holds Try.pinned (OpenSpec.ofChange versionSeesSpec)

/-- ITS FALSE NEIGHBOUR: 'it returns false'. Refute it at one input. -/
def versionSeesWrong : ChangeSpec := { name := "versionSees", fn := fun _ => fun
  | [d1, d2] => { results := [.lit (.bool false)], args := [d1, d2] }
  | _ => none }
def VersionSeesWrongFalsely : Prop := versionSeesRow.holds Try.pinned (OpenSpec.ofChange versionSeesWrong)

/-- 'cressetlaw15.VersionFolds': WHATEVER THE INPUT: true; the input reads as it did. -/
def versionFoldsSpec : ChangeSpec := { name := "versionFolds", fn := fun _ => fun
  | [d] => { results := [.lit (.bool true)], args := [d] }
  | _ => none }
def versionFoldsRow : OpenClaim := { program := "ytpakolohhoegfaa", sum := "7551130e49959ae79bc468f4b6857ad4da8d51c464b0fada7951c815be10524a", func := "cresset/cressetlaw15.VersionFolds", spec := "versionFolds", unfollowed := true, recurses := true, apart := false }
def VersionFoldsSaid : Prop := versionFoldsRow.holds Try.pinned (OpenSpec.ofChange versionFoldsSpec)

/-- ITS FALSE NEIGHBOUR: 'it returns false'. Refute it at one input. -/
def versionFoldsWrong : ChangeSpec := { name := "versionFolds", fn := fun _ => fun
  | [d] => { results := [.lit (.bool false)], args := [d] }
  | _ => none }
def VersionFoldsWrongFalsely : Prop := versionFoldsRow.holds Try.pinned (OpenSpec.ofChange versionFoldsWrong)

/-- 'cressetlaw15.VersionMaps': WHATEVER THE INPUT: true; the input reads as it did. -/
def versionMapsSpec : ChangeSpec := { name := "versionMaps", fn := fun _ => fun
  | [d] => { results := [.lit (.bool true)], args := [d] }
  | _ => none }
def versionMapsRow : OpenClaim := { program := "ytpakolohhoegfaa", sum := "7551130e49959ae79bc468f4b6857ad4da8d51c464b0fada7951c815be10524a", func := "cresset/cressetlaw15.VersionMaps", spec := "versionMaps", unfollowed := true, recurses := true, apart := false }
def VersionMapsSaid : Prop := versionMapsRow.holds Try.pinned (OpenSpec.ofChange versionMapsSpec)

/-- ITS FALSE NEIGHBOUR: 'it returns false'. Refute it at one input. -/
def versionMapsWrong : ChangeSpec := { name := "versionMaps", fn := fun _ => fun
  | [d] => { results := [.lit (.bool false)], args := [d] }
  | _ => none }
def VersionMapsWrongFalsely : Prop := versionMapsRow.holds Try.pinned (OpenSpec.ofChange versionMapsWrong)

/- THE SECOND FORM. 'bulk': how many values and letters a reading holds, each counted each time it is reached (what is shared counts as often as it is met; a slice's spare places count too). A statement '..UptoSaid' is the law's where the arguments, and the package variables that the reading takes, are together of bulk at most 1048576: NARROWER than '..Said'. Prove '..Said' where nothing that the law and all that it calls make is longer than what came in: it says more and counts as full. Else prove '..UptoSaid'. A law counts once. -/
mutual
def uptoBulk {H : Type} : DataW H → Nat
  | .lit (.string bytes) => bytes.length + 1
  | .lit _ => 1
  | .nil => 1
  | .ptr d => uptoBulk d + 1
  | .slice elems spare => uptoBulkAll elems + uptoBulkAll spare + 1
  | .agg parts => uptoBulkAll parts + 1
  | .iface _ d => uptoBulk d + 1
  | .map entries => uptoBulkEntries entries + 1
  | .held _ => 1
def uptoBulkAll {H : Type} : List (DataW H) → Nat
  | [] => 0
  | d :: r => uptoBulk d + uptoBulkAll r
def uptoBulkEntries {H : Type} : List (Lit × DataW H) → Nat
  | [] => 0
  | x :: r => uptoBulkEntry x + uptoBulkEntries r
def uptoBulkEntry {H : Type} : Lit × DataW H → Nat
  | (.string bytes, d) => bytes.length + uptoBulk d + 1
  | (_, d) => uptoBulk d + 1
 end
def uptoSmall : (H : Type) → List (DataW H) → Bool := fun _ ds => decide (uptoBulkAll ds ≤ 1048576)
def OpenSpec.upto (s : _root_.Go.ChangeSpec) : _root_.Go.OpenSpec := { _root_.Go.OpenSpec.ofChange s with cond := some uptoSmall }

/-- 'cressetlaw15.VersionPrunes', WHERE WHAT IT READS IS OF BULK AT MOST 1048576: true; the input reads as it did. -/
def versionPrunesUptoRow : OpenClaim := { program := "ytpakolohhoegfaa", sum := "7551130e49959ae79bc468f4b6857ad4da8d51c464b0fada7951c815be10524a", func := "cresset/cressetlaw15.VersionPrunes", spec := "versionPrunes", unfollowed := true, recurses := true, apart := false, narrowed := true }
def VersionPrunesUptoSaid : Prop := versionPrunesUptoRow.holds Try.pinned (OpenSpec.upto versionPrunesSpec)

/-- 'cressetlaw15.VersionAsks', WHERE WHAT IT READS IS OF BULK AT MOST 1048576: true; the input reads as it did. -/
def versionAsksUptoRow : OpenClaim := { program := "ytpakolohhoegfaa", sum := "7551130e49959ae79bc468f4b6857ad4da8d51c464b0fada7951c815be10524a", func := "cresset/cressetlaw15.VersionAsks", spec := "versionAsks", unfollowed := true, recurses := true, apart := false, narrowed := true }
def VersionAsksUptoSaid : Prop := versionAsksUptoRow.holds Try.pinned (OpenSpec.upto versionAsksSpec)

/-- 'cressetlaw15.VersionChanges', WHERE WHAT IT READS IS OF BULK AT MOST 1048576: true; the input reads as it did. -/
def versionChangesUptoRow : OpenClaim := { program := "ytpakolohhoegfaa", sum := "7551130e49959ae79bc468f4b6857ad4da8d51c464b0fada7951c815be10524a", func := "cresset/cressetlaw15.VersionChanges", spec := "versionChanges", unfollowed := true, recurses := true, apart := false, narrowed := true }
def VersionChangesUptoSaid : Prop := versionChangesUptoRow.holds Try.pinned (OpenSpec.upto versionChangesSpec)

/-- 'cressetlaw15.VersionOwn', WHERE WHAT IT READS IS OF BULK AT MOST 1048576: true; the input reads as it did. -/
def versionOwnUptoRow : OpenClaim := { program := "ytpakolohhoegfaa", sum := "7551130e49959ae79bc468f4b6857ad4da8d51c464b0fada7951c815be10524a", func := "cresset/cressetlaw15.VersionOwn", spec := "versionOwn", unfollowed := true, recurses := true, apart := false, narrowed := true }
def VersionOwnUptoSaid : Prop := versionOwnUptoRow.holds Try.pinned (OpenSpec.upto versionOwnSpec)

/-- 'cressetlaw15.VersionSees', WHERE WHAT IT READS IS OF BULK AT MOST 1048576: true; the input reads as it did. -/
def versionSeesUptoRow : OpenClaim := { program := "ytpakolohhoegfaa", sum := "7551130e49959ae79bc468f4b6857ad4da8d51c464b0fada7951c815be10524a", func := "cresset/cressetlaw15.VersionSees", spec := "versionSees", unfollowed := true, recurses := true, apart := false, narrowed := true }
def VersionSeesUptoSaid : Prop := versionSeesUptoRow.holds Try.pinned (OpenSpec.upto versionSeesSpec)

/-- 'cressetlaw15.VersionFolds', WHERE WHAT IT READS IS OF BULK AT MOST 1048576: true; the input reads as it did. -/
def versionFoldsUptoRow : OpenClaim := { program := "ytpakolohhoegfaa", sum := "7551130e49959ae79bc468f4b6857ad4da8d51c464b0fada7951c815be10524a", func := "cresset/cressetlaw15.VersionFolds", spec := "versionFolds", unfollowed := true, recurses := true, apart := false, narrowed := true }
def VersionFoldsUptoSaid : Prop := versionFoldsUptoRow.holds Try.pinned (OpenSpec.upto versionFoldsSpec)

/-- 'cressetlaw15.VersionMaps', WHERE WHAT IT READS IS OF BULK AT MOST 1048576: true; the input reads as it did. -/
def versionMapsUptoRow : OpenClaim := { program := "ytpakolohhoegfaa", sum := "7551130e49959ae79bc468f4b6857ad4da8d51c464b0fada7951c815be10524a", func := "cresset/cressetlaw15.VersionMaps", spec := "versionMaps", unfollowed := true, recurses := true, apart := false, narrowed := true }
def VersionMapsUptoSaid : Prop := versionMapsUptoRow.holds Try.pinned (OpenSpec.upto versionMapsSpec)

end Rows
end Go.Proofs.Ytpakolohhoegfaa

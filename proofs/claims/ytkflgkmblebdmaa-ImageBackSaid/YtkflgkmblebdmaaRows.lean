/-
  No cell of these rows narrows 'for every input' (looked for: loops, veiled, ifaces, maps, wideKeys, modest, calm, conditions, laid).
  DERIVED. THE GIVEN ROWS OF THIS SEAT. 7 by the template 'for every input the law returns true; each argument reads behind the call as it read before'; 0 by the template 'total and deterministic' (their statements: YtkflgkmblebdmaaTotals.lean).
  GIVEN WITH THE SEED: the statements are not yours to turn. If you find one false, say at which input.
  Laid BY PROGRAM, IN A SANDBOX (cutbox-rows.mjs): the forced cells as the released guide's own fill.sh prints them over the translation 9138a155964030a1… (all of the seat's roots in one cut). By AI agents, Wed Nov 11 2026. No macro, syntax, notation, axiom, sorry.
-/
import Derived.Test.YtkflgkmblebdmaaChecked
import GoSem.Claim
import GoSem.ClaimJoined
import GoSem.ClaimMapViews
import Derived.JoinedTies
import Derived.KernelRfl
namespace Go.Proofs.Ytkflgkmblebdmaa
/- THE CELL 'sum', in the pinned program and in every row, IS THE sha256 OF THE DUMP (.gsa) THAT YtkflgkmblebdmaaProg.lean LOADS. Nothing in Lean hashes anything: it is a label: what it is worth is what the hold of that sum in a sandbox is worth. -/
noncomputable def Try.pinned : Pinned := { name := "ytkflgkmblebdmaa", sum := "9138a155964030a105ed7b45896bf43205e0739099fcf36f8d7795b22cd16fef", checked := Try.checked }
namespace Rows
def none {H : Type} : Left H := { results := [], args := [] }

/-- 'cressetlaw18.ImageGathers': WHATEVER THE INPUT: true; the input reads as it did. -/
def imageGathersSpec : ChangeSpec := { name := "imageGathers", fn := fun _ => fun
  | [d1, d2, d3] => { results := [.lit (.bool true)], args := [d1, d2, d3] }
  | _ => none }
def imageGathersRow : OpenClaim := { program := "ytkflgkmblebdmaa", sum := "9138a155964030a105ed7b45896bf43205e0739099fcf36f8d7795b22cd16fef", func := "cresset/cressetlaw18.ImageGathers", spec := "imageGathers", unfollowed := true, recurses := true, apart := false }
def ImageGathersSaid : Prop := imageGathersRow.holds Try.pinned (OpenSpec.ofChange imageGathersSpec)

/-- ITS FALSE NEIGHBOUR: 'it returns false'. Refute it at one input. -/
def imageGathersWrong : ChangeSpec := { name := "imageGathers", fn := fun _ => fun
  | [d1, d2, d3] => { results := [.lit (.bool false)], args := [d1, d2, d3] }
  | _ => none }
def ImageGathersWrongFalsely : Prop := imageGathersRow.holds Try.pinned (OpenSpec.ofChange imageGathersWrong)

/-- 'cressetlaw18.ImageNone': WHATEVER THE INPUT: true; the input reads as it did. -/
def imageNoneSpec : ChangeSpec := { name := "imageNone", fn := fun _ => fun
  | [d] => { results := [.lit (.bool true)], args := [d] }
  | _ => none }
def imageNoneRow : OpenClaim := { program := "ytkflgkmblebdmaa", sum := "9138a155964030a105ed7b45896bf43205e0739099fcf36f8d7795b22cd16fef", func := "cresset/cressetlaw18.ImageNone", spec := "imageNone", unfollowed := true, recurses := true, apart := false }
def ImageNoneSaid : Prop := imageNoneRow.holds Try.pinned (OpenSpec.ofChange imageNoneSpec)

/-- ITS FALSE NEIGHBOUR: 'it returns false'. Refute it at one input. -/
def imageNoneWrong : ChangeSpec := { name := "imageNone", fn := fun _ => fun
  | [d] => { results := [.lit (.bool false)], args := [d] }
  | _ => none }
def ImageNoneWrongFalsely : Prop := imageNoneRow.holds Try.pinned (OpenSpec.ofChange imageNoneWrong)

/-- 'cressetlaw18.ImageBuilds': WHATEVER THE INPUT: true; the input reads as it did. -/
def imageBuildsSpec : ChangeSpec := { name := "imageBuilds", fn := fun _ => fun
  | [d] => { results := [.lit (.bool true)], args := [d] }
  | _ => none }
def imageBuildsRow : OpenClaim := { program := "ytkflgkmblebdmaa", sum := "9138a155964030a105ed7b45896bf43205e0739099fcf36f8d7795b22cd16fef", func := "cresset/cressetlaw18.ImageBuilds", spec := "imageBuilds", unfollowed := true, recurses := true, apart := false }
def ImageBuildsSaid : Prop := imageBuildsRow.holds Try.pinned (OpenSpec.ofChange imageBuildsSpec)

/-- ITS FALSE NEIGHBOUR: 'it returns false'. Refute it at one input. -/
def imageBuildsWrong : ChangeSpec := { name := "imageBuilds", fn := fun _ => fun
  | [d] => { results := [.lit (.bool false)], args := [d] }
  | _ => none }
def ImageBuildsWrongFalsely : Prop := imageBuildsRow.holds Try.pinned (OpenSpec.ofChange imageBuildsWrong)

/-- 'cressetlaw18.ImageBack': WHATEVER THE INPUT: true; the input reads as it did. -/
def imageBackSpec : ChangeSpec := { name := "imageBack", fn := fun _ => fun
  | [d1, d2] => { results := [.lit (.bool true)], args := [d1, d2] }
  | _ => none }
def imageBackRow : OpenClaim := { program := "ytkflgkmblebdmaa", sum := "9138a155964030a105ed7b45896bf43205e0739099fcf36f8d7795b22cd16fef", func := "cresset/cressetlaw18.ImageBack", spec := "imageBack", unfollowed := true, recurses := true, apart := false }
def ImageBackSaid : Prop := imageBackRow.holds Try.pinned (OpenSpec.ofChange imageBackSpec)

/-- ITS FALSE NEIGHBOUR: 'it returns false'. Refute it at one input. -/
def imageBackWrong : ChangeSpec := { name := "imageBack", fn := fun _ => fun
  | [d1, d2] => { results := [.lit (.bool false)], args := [d1, d2] }
  | _ => none }
def ImageBackWrongFalsely : Prop := imageBackRow.holds Try.pinned (OpenSpec.ofChange imageBackWrong)

/-- 'cressetlaw18.ImageAgain': WHATEVER THE INPUT: true; the input reads as it did. -/
def imageAgainSpec : ChangeSpec := { name := "imageAgain", fn := fun _ => fun
  | [d1, d2, d3, d4] => { results := [.lit (.bool true)], args := [d1, d2, d3, d4] }
  | _ => none }
def imageAgainRow : OpenClaim := { program := "ytkflgkmblebdmaa", sum := "9138a155964030a105ed7b45896bf43205e0739099fcf36f8d7795b22cd16fef", func := "cresset/cressetlaw18.ImageAgain", spec := "imageAgain", inPlace := ["internal/bytealg.abigen_runtime_cmpstring", "slices.overlaps[cresset/api.Stamped]"], unfollowed := true, recurses := true, apart := false }
def ImageAgainSaid : Prop := imageAgainRow.holds Try.pinned (OpenSpec.ofChange imageAgainSpec)

/-- ITS FALSE NEIGHBOUR: 'it returns false'. Refute it at one input. -/
def imageAgainWrong : ChangeSpec := { name := "imageAgain", fn := fun _ => fun
  | [d1, d2, d3, d4] => { results := [.lit (.bool false)], args := [d1, d2, d3, d4] }
  | _ => none }
def ImageAgainWrongFalsely : Prop := imageAgainRow.holds Try.pinned (OpenSpec.ofChange imageAgainWrong)

/-- 'cressetlaw18.ImageRedoes': WHATEVER THE INPUT: true; the input reads as it did. -/
def imageRedoesSpec : ChangeSpec := { name := "imageRedoes", fn := fun _ => fun
  | [d1, d2, d3] => { results := [.lit (.bool true)], args := [d1, d2, d3] }
  | _ => none }
def imageRedoesRow : OpenClaim := { program := "ytkflgkmblebdmaa", sum := "9138a155964030a105ed7b45896bf43205e0739099fcf36f8d7795b22cd16fef", func := "cresset/cressetlaw18.ImageRedoes", spec := "imageRedoes", inPlace := ["internal/bytealg.abigen_runtime_cmpstring", "slices.overlaps[cresset/api.Stamped]"], unfollowed := true, recurses := true, apart := false }
def ImageRedoesSaid : Prop := imageRedoesRow.holds Try.pinned (OpenSpec.ofChange imageRedoesSpec)

/-- ITS FALSE NEIGHBOUR: 'it returns false'. Refute it at one input. -/
def imageRedoesWrong : ChangeSpec := { name := "imageRedoes", fn := fun _ => fun
  | [d1, d2, d3] => { results := [.lit (.bool false)], args := [d1, d2, d3] }
  | _ => none }
def ImageRedoesWrongFalsely : Prop := imageRedoesRow.holds Try.pinned (OpenSpec.ofChange imageRedoesWrong)

/-- 'cressetlaw18.ImageFolds': WHATEVER THE INPUT: true; the input reads as it did. -/
def imageFoldsSpec : ChangeSpec := { name := "imageFolds", fn := fun _ => fun
  | [d1, d2, d3] => { results := [.lit (.bool true)], args := [d1, d2, d3] }
  | _ => none }
def imageFoldsRow : OpenClaim := { program := "ytkflgkmblebdmaa", sum := "9138a155964030a105ed7b45896bf43205e0739099fcf36f8d7795b22cd16fef", func := "cresset/cressetlaw18.ImageFolds", spec := "imageFolds", inPlace := ["internal/bytealg.abigen_runtime_cmpstring", "slices.overlaps[cresset/api.Stamped]"], unfollowed := true, recurses := true, apart := false }
def ImageFoldsSaid : Prop := imageFoldsRow.holds Try.pinned (OpenSpec.ofChange imageFoldsSpec)

/-- ITS FALSE NEIGHBOUR: 'it returns false'. Refute it at one input. -/
def imageFoldsWrong : ChangeSpec := { name := "imageFolds", fn := fun _ => fun
  | [d1, d2, d3] => { results := [.lit (.bool false)], args := [d1, d2, d3] }
  | _ => none }
def ImageFoldsWrongFalsely : Prop := imageFoldsRow.holds Try.pinned (OpenSpec.ofChange imageFoldsWrong)

/- THE SECOND FORM. 'bulk': how many values and letters a reading holds, each counted each time it is reached (what is shared counts as often as it is met; a slice's spare places count too). A statement '..UptoSaid' is the law's where the arguments, and the package variables that the reading takes, are together of bulk at most 1048576: NARROWER than '..Said'. Prove '..Said' where nothing that the law and all that it calls make is longer than what came in: it says more and counts as full. Else prove '..UptoSaid'. A law counts once. -/
mutual
def uptoBulk {H : Type} : DataW H → Nat
  | .lit (.string bytes) => bytes.length + 1
  | .lit _ => 1
  | .nil => 1
  | .ptr d => uptoBulk d + 1
  | .slice elems spare => uptoBulkAll elems + uptoBulkAll spare + 1
  | .agg parts => uptoBulkAll parts + 1
  | .iface _ d => uptoBulk d + 1
  | .map entries => uptoBulkEntries entries + 1
  | .held _ => 1
def uptoBulkAll {H : Type} : List (DataW H) → Nat
  | [] => 0
  | d :: r => uptoBulk d + uptoBulkAll r
def uptoBulkEntries {H : Type} : List (Lit × DataW H) → Nat
  | [] => 0
  | x :: r => uptoBulkEntry x + uptoBulkEntries r
def uptoBulkEntry {H : Type} : Lit × DataW H → Nat
  | (.string bytes, d) => bytes.length + uptoBulk d + 1
  | (_, d) => uptoBulk d + 1
 end
def uptoSmall : (H : Type) → List (DataW H) → Bool := fun _ ds => decide (uptoBulkAll ds ≤ 1048576)
def OpenSpec.upto (s : _root_.Go.ChangeSpec) : _root_.Go.OpenSpec := { _root_.Go.OpenSpec.ofChange s with cond := some uptoSmall }

/-- 'cressetlaw18.ImageGathers', WHERE WHAT IT READS IS OF BULK AT MOST 1048576: true; the input reads as it did. -/
def imageGathersUptoRow : OpenClaim := { program := "ytkflgkmblebdmaa", sum := "9138a155964030a105ed7b45896bf43205e0739099fcf36f8d7795b22cd16fef", func := "cresset/cressetlaw18.ImageGathers", spec := "imageGathers", unfollowed := true, recurses := true, apart := false, narrowed := true }
def ImageGathersUptoSaid : Prop := imageGathersUptoRow.holds Try.pinned (OpenSpec.upto imageGathersSpec)

/-- 'cressetlaw18.ImageNone', WHERE WHAT IT READS IS OF BULK AT MOST 1048576: true; the input reads as it did. -/
def imageNoneUptoRow : OpenClaim := { program := "ytkflgkmblebdmaa", sum := "9138a155964030a105ed7b45896bf43205e0739099fcf36f8d7795b22cd16fef", func := "cresset/cressetlaw18.ImageNone", spec := "imageNone", unfollowed := true, recurses := true, apart := false, narrowed := true }
def ImageNoneUptoSaid : Prop := imageNoneUptoRow.holds Try.pinned (OpenSpec.upto imageNoneSpec)

/-- 'cressetlaw18.ImageBuilds', WHERE WHAT IT READS IS OF BULK AT MOST 1048576: true; the input reads as it did. -/
def imageBuildsUptoRow : OpenClaim := { program := "ytkflgkmblebdmaa", sum := "9138a155964030a105ed7b45896bf43205e0739099fcf36f8d7795b22cd16fef", func := "cresset/cressetlaw18.ImageBuilds", spec := "imageBuilds", unfollowed := true, recurses := true, apart := false, narrowed := true }
def ImageBuildsUptoSaid : Prop := imageBuildsUptoRow.holds Try.pinned (OpenSpec.upto imageBuildsSpec)

/-- 'cressetlaw18.ImageBack', WHERE WHAT IT READS IS OF BULK AT MOST 1048576: true; the input reads as it did. -/
def imageBackUptoRow : OpenClaim := { program := "ytkflgkmblebdmaa", sum := "9138a155964030a105ed7b45896bf43205e0739099fcf36f8d7795b22cd16fef", func := "cresset/cressetlaw18.ImageBack", spec := "imageBack", unfollowed := true, recurses := true, apart := false, narrowed := true }
def ImageBackUptoSaid : Prop := imageBackUptoRow.holds Try.pinned (OpenSpec.upto imageBackSpec)

/-- 'cressetlaw18.ImageAgain', WHERE WHAT IT READS IS OF BULK AT MOST 1048576: true; the input reads as it did. -/
def imageAgainUptoRow : OpenClaim := { program := "ytkflgkmblebdmaa", sum := "9138a155964030a105ed7b45896bf43205e0739099fcf36f8d7795b22cd16fef", func := "cresset/cressetlaw18.ImageAgain", spec := "imageAgain", inPlace := ["internal/bytealg.abigen_runtime_cmpstring", "slices.overlaps[cresset/api.Stamped]"], unfollowed := true, recurses := true, apart := false, narrowed := true }
def ImageAgainUptoSaid : Prop := imageAgainUptoRow.holds Try.pinned (OpenSpec.upto imageAgainSpec)

/-- 'cressetlaw18.ImageRedoes', WHERE WHAT IT READS IS OF BULK AT MOST 1048576: true; the input reads as it did. -/
def imageRedoesUptoRow : OpenClaim := { program := "ytkflgkmblebdmaa", sum := "9138a155964030a105ed7b45896bf43205e0739099fcf36f8d7795b22cd16fef", func := "cresset/cressetlaw18.ImageRedoes", spec := "imageRedoes", inPlace := ["internal/bytealg.abigen_runtime_cmpstring", "slices.overlaps[cresset/api.Stamped]"], unfollowed := true, recurses := true, apart := false, narrowed := true }
def ImageRedoesUptoSaid : Prop := imageRedoesUptoRow.holds Try.pinned (OpenSpec.upto imageRedoesSpec)

/-- 'cressetlaw18.ImageFolds', WHERE WHAT IT READS IS OF BULK AT MOST 1048576: true; the input reads as it did. -/
def imageFoldsUptoRow : OpenClaim := { program := "ytkflgkmblebdmaa", sum := "9138a155964030a105ed7b45896bf43205e0739099fcf36f8d7795b22cd16fef", func := "cresset/cressetlaw18.ImageFolds", spec := "imageFolds", inPlace := ["internal/bytealg.abigen_runtime_cmpstring", "slices.overlaps[cresset/api.Stamped]"], unfollowed := true, recurses := true, apart := false, narrowed := true }
def ImageFoldsUptoSaid : Prop := imageFoldsUptoRow.holds Try.pinned (OpenSpec.upto imageFoldsSpec)

end Rows
end Go.Proofs.Ytkflgkmblebdmaa

/-
  No cell of these rows narrows 'for every input' (looked for: loops, veiled, ifaces, maps, wideKeys, modest, calm, conditions, laid).
  DERIVED. THE GIVEN ROWS OF THIS SEAT. 7 by the template 'for every input the law returns true; each argument reads behind the call as it read before'; 0 by the template 'total and deterministic' (their statements: YtgbmlkoblcfceaaTotals.lean).
  GIVEN WITH THE SEED: the statements are not yours to turn. If you find one false, say at which input.
  Laid BY PROGRAM, IN A SANDBOX (cutbox-rows.mjs): the forced cells as the released guide's own fill.sh prints them over the translation e757ce945e62927f… (all of the seat's roots in one cut). By AI agents, Wed Nov 11 2026. No macro, syntax, notation, axiom, sorry.
-/
import Derived.Test.YtgbmlkoblcfceaaChecked
import GoSem.Claim
import GoSem.ClaimJoined
import GoSem.ClaimMapViews
import Derived.JoinedTies
import Derived.KernelRfl
namespace Go.Proofs.Ytgbmlkoblcfceaa
/- THE CELL 'sum', in the pinned program and in every row, IS THE sha256 OF THE DUMP (.gsa) THAT YtgbmlkoblcfceaaProg.lean LOADS. Nothing in Lean hashes anything: it is a label: what it is worth is what the hold of that sum in a sandbox is worth. -/
noncomputable def Try.pinned : Pinned := { name := "ytgbmlkoblcfceaa", sum := "e757ce945e62927f19c00d0501793af73ae57e89501a8b06f4957c2efb5b530e", checked := Try.checked }
namespace Rows
def none {H : Type} : Left H := { results := [], args := [] }

/-- 'cressetlaw23.ValidStricter': WHATEVER THE INPUT: true; the input reads as it did. -/
def validStricterSpec : ChangeSpec := { name := "validStricter", fn := fun _ => fun
  | [d1, d2, d3] => { results := [.lit (.bool true)], args := [d1, d2, d3] }
  | _ => none }
def validStricterRow : OpenClaim := { program := "ytgbmlkoblcfceaa", sum := "e757ce945e62927f19c00d0501793af73ae57e89501a8b06f4957c2efb5b530e", func := "cresset/cressetlaw23.ValidStricter", spec := "validStricter", unfollowed := true, recurses := true, apart := false }
def ValidStricterSaid : Prop := validStricterRow.holds Try.pinned (OpenSpec.ofChange validStricterSpec)

/-- ITS FALSE NEIGHBOUR: 'it returns false'. Refute it at one input. -/
def validStricterWrong : ChangeSpec := { name := "validStricter", fn := fun _ => fun
  | [d1, d2, d3] => { results := [.lit (.bool false)], args := [d1, d2, d3] }
  | _ => none }
def ValidStricterWrongFalsely : Prop := validStricterRow.holds Try.pinned (OpenSpec.ofChange validStricterWrong)

/-- 'cressetlaw23.ValidFirst': WHATEVER THE INPUT: true; the input reads as it did. -/
def validFirstSpec : ChangeSpec := { name := "validFirst", fn := fun _ => fun
  | [d1, d2, d3] => { results := [.lit (.bool true)], args := [d1, d2, d3] }
  | _ => none }
def validFirstRow : OpenClaim := { program := "ytgbmlkoblcfceaa", sum := "e757ce945e62927f19c00d0501793af73ae57e89501a8b06f4957c2efb5b530e", func := "cresset/cressetlaw23.ValidFirst", spec := "validFirst", unfollowed := true, recurses := true, apart := false }
def ValidFirstSaid : Prop := validFirstRow.holds Try.pinned (OpenSpec.ofChange validFirstSpec)

/-- ITS FALSE NEIGHBOUR: 'it returns false'. Refute it at one input. -/
def validFirstWrong : ChangeSpec := { name := "validFirst", fn := fun _ => fun
  | [d1, d2, d3] => { results := [.lit (.bool false)], args := [d1, d2, d3] }
  | _ => none }
def ValidFirstWrongFalsely : Prop := validFirstRow.holds Try.pinned (OpenSpec.ofChange validFirstWrong)

/-- 'cressetlaw23.ValidClashes': WHATEVER THE INPUT: true; the input reads as it did. -/
def validClashesSpec : ChangeSpec := { name := "validClashes", fn := fun _ => fun
  | [d1, d2, d3] => { results := [.lit (.bool true)], args := [d1, d2, d3] }
  | _ => none }
def validClashesRow : OpenClaim := { program := "ytgbmlkoblcfceaa", sum := "e757ce945e62927f19c00d0501793af73ae57e89501a8b06f4957c2efb5b530e", func := "cresset/cressetlaw23.ValidClashes", spec := "validClashes", unfollowed := true, recurses := true, apart := false }
def ValidClashesSaid : Prop := validClashesRow.holds Try.pinned (OpenSpec.ofChange validClashesSpec)

/-- ITS FALSE NEIGHBOUR: 'it returns false'. Refute it at one input. -/
def validClashesWrong : ChangeSpec := { name := "validClashes", fn := fun _ => fun
  | [d1, d2, d3] => { results := [.lit (.bool false)], args := [d1, d2, d3] }
  | _ => none }
def ValidClashesWrongFalsely : Prop := validClashesRow.holds Try.pinned (OpenSpec.ofChange validClashesWrong)

/-- 'cressetlaw23.ValidOwn': WHATEVER THE INPUT: true; the input reads as it did. -/
def validOwnSpec : ChangeSpec := { name := "validOwn", fn := fun _ => fun
  | [d] => { results := [.lit (.bool true)], args := [d] }
  | _ => none }
def validOwnRow : OpenClaim := { program := "ytgbmlkoblcfceaa", sum := "e757ce945e62927f19c00d0501793af73ae57e89501a8b06f4957c2efb5b530e", func := "cresset/cressetlaw23.ValidOwn", spec := "validOwn", unfollowed := true, recurses := true, apart := false }
def ValidOwnSaid : Prop := validOwnRow.holds Try.pinned (OpenSpec.ofChange validOwnSpec)

/-- ITS FALSE NEIGHBOUR: 'it returns false'. Refute it at one input. -/
def validOwnWrong : ChangeSpec := { name := "validOwn", fn := fun _ => fun
  | [d] => { results := [.lit (.bool false)], args := [d] }
  | _ => none }
def ValidOwnWrongFalsely : Prop := validOwnRow.holds Try.pinned (OpenSpec.ofChange validOwnWrong)

/-- 'cressetlaw23.ValidForgets': WHATEVER THE INPUT: true; the input reads as it did. -/
def validForgetsSpec : ChangeSpec := { name := "validForgets", fn := fun _ => fun
  | [d1, d2, d3] => { results := [.lit (.bool true)], args := [d1, d2, d3] }
  | _ => none }
def validForgetsRow : OpenClaim := { program := "ytgbmlkoblcfceaa", sum := "e757ce945e62927f19c00d0501793af73ae57e89501a8b06f4957c2efb5b530e", func := "cresset/cressetlaw23.ValidForgets", spec := "validForgets", unfollowed := true, recurses := true, apart := false }
def ValidForgetsSaid : Prop := validForgetsRow.holds Try.pinned (OpenSpec.ofChange validForgetsSpec)

/-- ITS FALSE NEIGHBOUR: 'it returns false'. Refute it at one input. -/
def validForgetsWrong : ChangeSpec := { name := "validForgets", fn := fun _ => fun
  | [d1, d2, d3] => { results := [.lit (.bool false)], args := [d1, d2, d3] }
  | _ => none }
def ValidForgetsWrongFalsely : Prop := validForgetsRow.holds Try.pinned (OpenSpec.ofChange validForgetsWrong)

/-- 'cressetlaw23.ValidDoes': WHATEVER THE INPUT: true; the input reads as it did. -/
def validDoesSpec : ChangeSpec := { name := "validDoes", fn := fun _ => fun
  | [d] => { results := [.lit (.bool true)], args := [d] }
  | _ => none }
def validDoesRow : OpenClaim := { program := "ytgbmlkoblcfceaa", sum := "e757ce945e62927f19c00d0501793af73ae57e89501a8b06f4957c2efb5b530e", func := "cresset/cressetlaw23.ValidDoes", spec := "validDoes", unfollowed := true, recurses := true, apart := false }
def ValidDoesSaid : Prop := validDoesRow.holds Try.pinned (OpenSpec.ofChange validDoesSpec)

/-- ITS FALSE NEIGHBOUR: 'it returns false'. Refute it at one input. -/
def validDoesWrong : ChangeSpec := { name := "validDoes", fn := fun _ => fun
  | [d] => { results := [.lit (.bool false)], args := [d] }
  | _ => none }
def ValidDoesWrongFalsely : Prop := validDoesRow.holds Try.pinned (OpenSpec.ofChange validDoesWrong)

/-- 'cressetlaw23.ValidNone': WHATEVER THE INPUT: true; the input reads as it did. -/
def validNoneSpec : ChangeSpec := { name := "validNone", fn := fun _ => fun
  | [d] => { results := [.lit (.bool true)], args := [d] }
  | _ => none }
def validNoneRow : OpenClaim := { program := "ytgbmlkoblcfceaa", sum := "e757ce945e62927f19c00d0501793af73ae57e89501a8b06f4957c2efb5b530e", func := "cresset/cressetlaw23.ValidNone", spec := "validNone", unfollowed := true, recurses := true, apart := false }
def ValidNoneSaid : Prop := validNoneRow.holds Try.pinned (OpenSpec.ofChange validNoneSpec)

/-- ITS FALSE NEIGHBOUR: 'it returns false'. Refute it at one input. -/
def validNoneWrong : ChangeSpec := { name := "validNone", fn := fun _ => fun
  | [d] => { results := [.lit (.bool false)], args := [d] }
  | _ => none }
def ValidNoneWrongFalsely : Prop := validNoneRow.holds Try.pinned (OpenSpec.ofChange validNoneWrong)

/- THE SECOND FORM. 'bulk': how many values and letters a reading holds, each counted each time it is reached (what is shared counts as often as it is met; a slice's spare places count too). A statement '..UptoSaid' is the law's where the arguments, and the package variables that the reading takes, are together of bulk at most 1048576: NARROWER than '..Said'. Prove '..Said' where nothing that the law and all that it calls make is longer than what came in: it says more and counts as full. Else prove '..UptoSaid'. A law counts once. -/
mutual
def uptoBulk {H : Type} : DataW H → Nat
  | .lit (.string bytes) => bytes.length + 1
  | .lit _ => 1
  | .nil => 1
  | .ptr d => uptoBulk d + 1
  | .slice elems spare => uptoBulkAll elems + uptoBulkAll spare + 1
  | .agg parts => uptoBulkAll parts + 1
  | .iface _ d => uptoBulk d + 1
  | .map entries => uptoBulkEntries entries + 1
  | .held _ => 1
def uptoBulkAll {H : Type} : List (DataW H) → Nat
  | [] => 0
  | d :: r => uptoBulk d + uptoBulkAll r
def uptoBulkEntries {H : Type} : List (Lit × DataW H) → Nat
  | [] => 0
  | x :: r => uptoBulkEntry x + uptoBulkEntries r
def uptoBulkEntry {H : Type} : Lit × DataW H → Nat
  | (.string bytes, d) => bytes.length + uptoBulk d + 1
  | (_, d) => uptoBulk d + 1
 end
def uptoSmall : (H : Type) → List (DataW H) → Bool := fun _ ds => decide (uptoBulkAll ds ≤ 1048576)
def OpenSpec.upto (s : _root_.Go.ChangeSpec) : _root_.Go.OpenSpec := { _root_.Go.OpenSpec.ofChange s with cond := some uptoSmall }

/-- 'cressetlaw23.ValidStricter', WHERE WHAT IT READS IS OF BULK AT MOST 1048576: true; the input reads as it did. -/
def validStricterUptoRow : OpenClaim := { program := "ytgbmlkoblcfceaa", sum := "e757ce945e62927f19c00d0501793af73ae57e89501a8b06f4957c2efb5b530e", func := "cresset/cressetlaw23.ValidStricter", spec := "validStricter", unfollowed := true, recurses := true, apart := false, narrowed := true }
def ValidStricterUptoSaid : Prop := validStricterUptoRow.holds Try.pinned (OpenSpec.upto validStricterSpec)

/-- 'cressetlaw23.ValidFirst', WHERE WHAT IT READS IS OF BULK AT MOST 1048576: true; the input reads as it did. -/
def validFirstUptoRow : OpenClaim := { program := "ytgbmlkoblcfceaa", sum := "e757ce945e62927f19c00d0501793af73ae57e89501a8b06f4957c2efb5b530e", func := "cresset/cressetlaw23.ValidFirst", spec := "validFirst", unfollowed := true, recurses := true, apart := false, narrowed := true }
def ValidFirstUptoSaid : Prop := validFirstUptoRow.holds Try.pinned (OpenSpec.upto validFirstSpec)

/-- 'cressetlaw23.ValidClashes', WHERE WHAT IT READS IS OF BULK AT MOST 1048576: true; the input reads as it did. -/
def validClashesUptoRow : OpenClaim := { program := "ytgbmlkoblcfceaa", sum := "e757ce945e62927f19c00d0501793af73ae57e89501a8b06f4957c2efb5b530e", func := "cresset/cressetlaw23.ValidClashes", spec := "validClashes", unfollowed := true, recurses := true, apart := false, narrowed := true }
def ValidClashesUptoSaid : Prop := validClashesUptoRow.holds Try.pinned (OpenSpec.upto validClashesSpec)

/-- 'cressetlaw23.ValidOwn', WHERE WHAT IT READS IS OF BULK AT MOST 1048576: true; the input reads as it did. -/
def validOwnUptoRow : OpenClaim := { program := "ytgbmlkoblcfceaa", sum := "e757ce945e62927f19c00d0501793af73ae57e89501a8b06f4957c2efb5b530e", func := "cresset/cressetlaw23.ValidOwn", spec := "validOwn", unfollowed := true, recurses := true, apart := false, narrowed := true }
def ValidOwnUptoSaid : Prop := validOwnUptoRow.holds Try.pinned (OpenSpec.upto validOwnSpec)

/-- 'cressetlaw23.ValidForgets', WHERE WHAT IT READS IS OF BULK AT MOST 1048576: true; the input reads as it did. -/
def validForgetsUptoRow : OpenClaim := { program := "ytgbmlkoblcfceaa", sum := "e757ce945e62927f19c00d0501793af73ae57e89501a8b06f4957c2efb5b530e", func := "cresset/cressetlaw23.ValidForgets", spec := "validForgets", unfollowed := true, recurses := true, apart := false, narrowed := true }
def ValidForgetsUptoSaid : Prop := validForgetsUptoRow.holds Try.pinned (OpenSpec.upto validForgetsSpec)

/-- 'cressetlaw23.ValidDoes', WHERE WHAT IT READS IS OF BULK AT MOST 1048576: true; the input reads as it did. -/
def validDoesUptoRow : OpenClaim := { program := "ytgbmlkoblcfceaa", sum := "e757ce945e62927f19c00d0501793af73ae57e89501a8b06f4957c2efb5b530e", func := "cresset/cressetlaw23.ValidDoes", spec := "validDoes", unfollowed := true, recurses := true, apart := false, narrowed := true }
def ValidDoesUptoSaid : Prop := validDoesUptoRow.holds Try.pinned (OpenSpec.upto validDoesSpec)

/-- 'cressetlaw23.ValidNone', WHERE WHAT IT READS IS OF BULK AT MOST 1048576: true; the input reads as it did. -/
def validNoneUptoRow : OpenClaim := { program := "ytgbmlkoblcfceaa", sum := "e757ce945e62927f19c00d0501793af73ae57e89501a8b06f4957c2efb5b530e", func := "cresset/cressetlaw23.ValidNone", spec := "validNone", unfollowed := true, recurses := true, apart := false, narrowed := true }
def ValidNoneUptoSaid : Prop := validNoneUptoRow.holds Try.pinned (OpenSpec.upto validNoneSpec)

end Rows
end Go.Proofs.Ytgbmlkoblcfceaa

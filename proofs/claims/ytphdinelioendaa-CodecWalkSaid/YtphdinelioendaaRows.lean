/-
  No cell of these rows narrows 'for every input' (looked for: loops, veiled, ifaces, maps, wideKeys, modest, calm, conditions, laid).
  DERIVED. THE GIVEN ROWS OF THIS SEAT. 12 by the template 'for every input the law returns true; each argument reads behind the call as it read before'; 0 by the template 'total and deterministic' (their statements: YtphdinelioendaaTotals.lean).
  GIVEN WITH THE SEED: the statements are not yours to turn. If you find one false, say at which input.
  Laid BY PROGRAM, IN A SANDBOX (cutbox-rows.mjs): the forced cells as the released guide's own fill.sh prints them over the translation 6d70604cfa289ede… (all of the seat's roots in one cut). By AI agents, Wed Nov 11 2026. No macro, syntax, notation, axiom, sorry.
-/
import Derived.Test.YtphdinelioendaaChecked
import GoSem.Claim
import GoSem.ClaimJoined
import GoSem.ClaimMapViews
import Derived.JoinedTies
import Derived.KernelRfl
namespace Go.Proofs.Ytphdinelioendaa
/- THE CELL 'sum', in the pinned program and in every row, IS THE sha256 OF THE DUMP (.gsa) THAT YtphdinelioendaaProg.lean LOADS. Nothing in Lean hashes anything: it is a label: what it is worth is what the hold of that sum in a sandbox is worth. -/
noncomputable def Try.pinned : Pinned := { name := "ytphdinelioendaa", sum := "6d70604cfa289eded3771963d2c6475599bcae1970a1a290ed32ad5653b535f4", checked := Try.checked }
namespace Rows
def none {H : Type} : Left H := { results := [], args := [] }

/-- 'cressetlaw01.CodecSums': WHATEVER THE INPUT: true; the input reads as it did. -/
def codecSumsSpec : ChangeSpec := { name := "codecSums", fn := fun _ => fun
  | [d] => { results := [.lit (.bool true)], args := [d] }
  | _ => none }
def codecSumsRow : OpenClaim := { program := "ytphdinelioendaa", sum := "6d70604cfa289eded3771963d2c6475599bcae1970a1a290ed32ad5653b535f4", func := "cresset/cressetlaw01.CodecSums", spec := "codecSums", apart := false }
def CodecSumsSaid : Prop := codecSumsRow.holds Try.pinned (OpenSpec.ofChange codecSumsSpec)

/-- ITS FALSE NEIGHBOUR: 'it returns false'. Refute it at one input. -/
def codecSumsWrong : ChangeSpec := { name := "codecSums", fn := fun _ => fun
  | [d] => { results := [.lit (.bool false)], args := [d] }
  | _ => none }
def CodecSumsWrongFalsely : Prop := codecSumsRow.holds Try.pinned (OpenSpec.ofChange codecSumsWrong)

/-- 'cressetlaw01.CodecInts': WHATEVER THE INPUT: true; the input reads as it did. -/
def codecIntsSpec : ChangeSpec := { name := "codecInts", fn := fun _ => fun
  | [d1, d2] => { results := [.lit (.bool true)], args := [d1, d2] }
  | _ => none }
def codecIntsRow : OpenClaim := { program := "ytphdinelioendaa", sum := "6d70604cfa289eded3771963d2c6475599bcae1970a1a290ed32ad5653b535f4", func := "cresset/cressetlaw01.CodecInts", spec := "codecInts", apart := false }
def CodecIntsSaid : Prop := codecIntsRow.holds Try.pinned (OpenSpec.ofChange codecIntsSpec)

/-- ITS FALSE NEIGHBOUR: 'it returns false'. Refute it at one input. -/
def codecIntsWrong : ChangeSpec := { name := "codecInts", fn := fun _ => fun
  | [d1, d2] => { results := [.lit (.bool false)], args := [d1, d2] }
  | _ => none }
def CodecIntsWrongFalsely : Prop := codecIntsRow.holds Try.pinned (OpenSpec.ofChange codecIntsWrong)

/-- 'cressetlaw01.CodecWalk': WHATEVER THE INPUT: true; the input reads as it did. -/
def codecWalkSpec : ChangeSpec := { name := "codecWalk", fn := fun _ => fun
  | [d1, d2] => { results := [.lit (.bool true)], args := [d1, d2] }
  | _ => none }
def codecWalkRow : OpenClaim := { program := "ytphdinelioendaa", sum := "6d70604cfa289eded3771963d2c6475599bcae1970a1a290ed32ad5653b535f4", func := "cresset/cressetlaw01.CodecWalk", spec := "codecWalk", unfollowed := true, recurses := true, apart := false }
def CodecWalkSaid : Prop := codecWalkRow.holds Try.pinned (OpenSpec.ofChange codecWalkSpec)

/-- ITS FALSE NEIGHBOUR: 'it returns false'. Refute it at one input. -/
def codecWalkWrong : ChangeSpec := { name := "codecWalk", fn := fun _ => fun
  | [d1, d2] => { results := [.lit (.bool false)], args := [d1, d2] }
  | _ => none }
def CodecWalkWrongFalsely : Prop := codecWalkRow.holds Try.pinned (OpenSpec.ofChange codecWalkWrong)

/-- 'cressetlaw01.CodecOne': WHATEVER THE INPUT: true; the input reads as it did. -/
def codecOneSpec : ChangeSpec := { name := "codecOne", fn := fun _ => fun
  | [d] => { results := [.lit (.bool true)], args := [d] }
  | _ => none }
def codecOneRow : OpenClaim := { program := "ytphdinelioendaa", sum := "6d70604cfa289eded3771963d2c6475599bcae1970a1a290ed32ad5653b535f4", func := "cresset/cressetlaw01.CodecOne", spec := "codecOne", apart := false }
def CodecOneSaid : Prop := codecOneRow.holds Try.pinned (OpenSpec.ofChange codecOneSpec)

/-- ITS FALSE NEIGHBOUR: 'it returns false'. Refute it at one input. -/
def codecOneWrong : ChangeSpec := { name := "codecOne", fn := fun _ => fun
  | [d] => { results := [.lit (.bool false)], args := [d] }
  | _ => none }
def CodecOneWrongFalsely : Prop := codecOneRow.holds Try.pinned (OpenSpec.ofChange codecOneWrong)

/-- 'cressetlaw01.CodecHeads': WHATEVER THE INPUT: true; the input reads as it did. -/
def codecHeadsSpec : ChangeSpec := { name := "codecHeads", fn := fun _ => fun
  | [d1, d2, d3] => { results := [.lit (.bool true)], args := [d1, d2, d3] }
  | _ => none }
def codecHeadsRow : OpenClaim := { program := "ytphdinelioendaa", sum := "6d70604cfa289eded3771963d2c6475599bcae1970a1a290ed32ad5653b535f4", func := "cresset/cressetlaw01.CodecHeads", spec := "codecHeads", apart := false }
def CodecHeadsSaid : Prop := codecHeadsRow.holds Try.pinned (OpenSpec.ofChange codecHeadsSpec)

/-- ITS FALSE NEIGHBOUR: 'it returns false'. Refute it at one input. -/
def codecHeadsWrong : ChangeSpec := { name := "codecHeads", fn := fun _ => fun
  | [d1, d2, d3] => { results := [.lit (.bool false)], args := [d1, d2, d3] }
  | _ => none }
def CodecHeadsWrongFalsely : Prop := codecHeadsRow.holds Try.pinned (OpenSpec.ofChange codecHeadsWrong)

/-- 'cressetlaw01.CodecOrder': WHATEVER THE INPUT: true; the input reads as it did. -/
def codecOrderSpec : ChangeSpec := { name := "codecOrder", fn := fun _ => fun
  | [d1, d2, d3] => { results := [.lit (.bool true)], args := [d1, d2, d3] }
  | _ => none }
def codecOrderRow : OpenClaim := { program := "ytphdinelioendaa", sum := "6d70604cfa289eded3771963d2c6475599bcae1970a1a290ed32ad5653b535f4", func := "cresset/cressetlaw01.CodecOrder", spec := "codecOrder", inPlace := ["internal/bytealg.Compare"], apart := false }
def CodecOrderSaid : Prop := codecOrderRow.holds Try.pinned (OpenSpec.ofChange codecOrderSpec)

/-- ITS FALSE NEIGHBOUR: 'it returns false'. Refute it at one input. -/
def codecOrderWrong : ChangeSpec := { name := "codecOrder", fn := fun _ => fun
  | [d1, d2, d3] => { results := [.lit (.bool false)], args := [d1, d2, d3] }
  | _ => none }
def CodecOrderWrongFalsely : Prop := codecOrderRow.holds Try.pinned (OpenSpec.ofChange codecOrderWrong)

/-- 'cressetlaw01.CodecRows': WHATEVER THE INPUT: true; the input reads as it did. -/
def codecRowsSpec : ChangeSpec := { name := "codecRows", fn := fun _ => fun
  | [d1, d2] => { results := [.lit (.bool true)], args := [d1, d2] }
  | _ => none }
def codecRowsRow : OpenClaim := { program := "ytphdinelioendaa", sum := "6d70604cfa289eded3771963d2c6475599bcae1970a1a290ed32ad5653b535f4", func := "cresset/cressetlaw01.CodecRows", spec := "codecRows", inPlace := ["internal/bytealg.Compare"], apart := false }
def CodecRowsSaid : Prop := codecRowsRow.holds Try.pinned (OpenSpec.ofChange codecRowsSpec)

/-- ITS FALSE NEIGHBOUR: 'it returns false'. Refute it at one input. -/
def codecRowsWrong : ChangeSpec := { name := "codecRows", fn := fun _ => fun
  | [d1, d2] => { results := [.lit (.bool false)], args := [d1, d2] }
  | _ => none }
def CodecRowsWrongFalsely : Prop := codecRowsRow.holds Try.pinned (OpenSpec.ofChange codecRowsWrong)

/-- 'cressetlaw01.CodecBack': WHATEVER THE INPUT: true; the input reads as it did. -/
def codecBackSpec : ChangeSpec := { name := "codecBack", fn := fun _ => fun
  | [d1, d2, d3] => { results := [.lit (.bool true)], args := [d1, d2, d3] }
  | _ => none }
def codecBackRow : OpenClaim := { program := "ytphdinelioendaa", sum := "6d70604cfa289eded3771963d2c6475599bcae1970a1a290ed32ad5653b535f4", func := "cresset/cressetlaw01.CodecBack", spec := "codecBack", apart := false }
def CodecBackSaid : Prop := codecBackRow.holds Try.pinned (OpenSpec.ofChange codecBackSpec)

/-- ITS FALSE NEIGHBOUR: 'it returns false'. Refute it at one input. -/
def codecBackWrong : ChangeSpec := { name := "codecBack", fn := fun _ => fun
  | [d1, d2, d3] => { results := [.lit (.bool false)], args := [d1, d2, d3] }
  | _ => none }
def CodecBackWrongFalsely : Prop := codecBackRow.holds Try.pinned (OpenSpec.ofChange codecBackWrong)

/-- 'cressetlaw01.CodecTexts': WHATEVER THE INPUT: true; the input reads as it did. -/
def codecTextsSpec : ChangeSpec := { name := "codecTexts", fn := fun _ => fun
  | [d1, d2, d3] => { results := [.lit (.bool true)], args := [d1, d2, d3] }
  | _ => none }
def codecTextsRow : OpenClaim := { program := "ytphdinelioendaa", sum := "6d70604cfa289eded3771963d2c6475599bcae1970a1a290ed32ad5653b535f4", func := "cresset/cressetlaw01.CodecTexts", spec := "codecTexts", apart := false }
def CodecTextsSaid : Prop := codecTextsRow.holds Try.pinned (OpenSpec.ofChange codecTextsSpec)

/-- ITS FALSE NEIGHBOUR: 'it returns false'. Refute it at one input. -/
def codecTextsWrong : ChangeSpec := { name := "codecTexts", fn := fun _ => fun
  | [d1, d2, d3] => { results := [.lit (.bool false)], args := [d1, d2, d3] }
  | _ => none }
def CodecTextsWrongFalsely : Prop := codecTextsRow.holds Try.pinned (OpenSpec.ofChange codecTextsWrong)

/-- 'cressetlaw01.CodecFrames': WHATEVER THE INPUT: true; the input reads as it did. -/
def codecFramesSpec : ChangeSpec := { name := "codecFrames", fn := fun _ => fun
  | [d] => { results := [.lit (.bool true)], args := [d] }
  | _ => none }
def codecFramesRow : OpenClaim := { program := "ytphdinelioendaa", sum := "6d70604cfa289eded3771963d2c6475599bcae1970a1a290ed32ad5653b535f4", func := "cresset/cressetlaw01.CodecFrames", spec := "codecFrames", apart := false }
def CodecFramesSaid : Prop := codecFramesRow.holds Try.pinned (OpenSpec.ofChange codecFramesSpec)

/-- ITS FALSE NEIGHBOUR: 'it returns false'. Refute it at one input. -/
def codecFramesWrong : ChangeSpec := { name := "codecFrames", fn := fun _ => fun
  | [d] => { results := [.lit (.bool false)], args := [d] }
  | _ => none }
def CodecFramesWrongFalsely : Prop := codecFramesRow.holds Try.pinned (OpenSpec.ofChange codecFramesWrong)

/-- 'cressetlaw01.CodecTorn': WHATEVER THE INPUT: true; the input reads as it did. -/
def codecTornSpec : ChangeSpec := { name := "codecTorn", fn := fun _ => fun
  | [d1, d2, d3] => { results := [.lit (.bool true)], args := [d1, d2, d3] }
  | _ => none }
def codecTornRow : OpenClaim := { program := "ytphdinelioendaa", sum := "6d70604cfa289eded3771963d2c6475599bcae1970a1a290ed32ad5653b535f4", func := "cresset/cressetlaw01.CodecTorn", spec := "codecTorn", apart := false }
def CodecTornSaid : Prop := codecTornRow.holds Try.pinned (OpenSpec.ofChange codecTornSpec)

/-- ITS FALSE NEIGHBOUR: 'it returns false'. Refute it at one input. -/
def codecTornWrong : ChangeSpec := { name := "codecTorn", fn := fun _ => fun
  | [d1, d2, d3] => { results := [.lit (.bool false)], args := [d1, d2, d3] }
  | _ => none }
def CodecTornWrongFalsely : Prop := codecTornRow.holds Try.pinned (OpenSpec.ofChange codecTornWrong)

/-- 'cressetlaw01.CodecOwn': WHATEVER THE INPUT: true; the input reads as it did. -/
def codecOwnSpec : ChangeSpec := { name := "codecOwn", fn := fun _ => fun
  | [d1, d2] => { results := [.lit (.bool true)], args := [d1, d2] }
  | _ => none }
def codecOwnRow : OpenClaim := { program := "ytphdinelioendaa", sum := "6d70604cfa289eded3771963d2c6475599bcae1970a1a290ed32ad5653b535f4", func := "cresset/cressetlaw01.CodecOwn", spec := "codecOwn", apart := false }
def CodecOwnSaid : Prop := codecOwnRow.holds Try.pinned (OpenSpec.ofChange codecOwnSpec)

/-- ITS FALSE NEIGHBOUR: 'it returns false'. Refute it at one input. -/
def codecOwnWrong : ChangeSpec := { name := "codecOwn", fn := fun _ => fun
  | [d1, d2] => { results := [.lit (.bool false)], args := [d1, d2] }
  | _ => none }
def CodecOwnWrongFalsely : Prop := codecOwnRow.holds Try.pinned (OpenSpec.ofChange codecOwnWrong)

/- THE SECOND FORM. 'bulk': how many values and letters a reading holds, each counted each time it is reached (what is shared counts as often as it is met; a slice's spare places count too). A statement '..UptoSaid' is the law's where the arguments, and the package variables that the reading takes, are together of bulk at most 1048576: NARROWER than '..Said'. Prove '..Said' where nothing that the law and all that it calls make is longer than what came in: it says more and counts as full. Else prove '..UptoSaid'. A law counts once. -/
mutual
def uptoBulk {H : Type} : DataW H → Nat
  | .lit (.string bytes) => bytes.length + 1
  | .lit _ => 1
  | .nil => 1
  | .ptr d => uptoBulk d + 1
  | .slice elems spare => uptoBulkAll elems + uptoBulkAll spare + 1
  | .agg parts => uptoBulkAll parts + 1
  | .iface _ d => uptoBulk d + 1
  | .map entries => uptoBulkEntries entries + 1
  | .held _ => 1
def uptoBulkAll {H : Type} : List (DataW H) → Nat
  | [] => 0
  | d :: r => uptoBulk d + uptoBulkAll r
def uptoBulkEntries {H : Type} : List (Lit × DataW H) → Nat
  | [] => 0
  | x :: r => uptoBulkEntry x + uptoBulkEntries r
def uptoBulkEntry {H : Type} : Lit × DataW H → Nat
  | (.string bytes, d) => bytes.length + uptoBulk d + 1
  | (_, d) => uptoBulk d + 1
 end
def uptoSmall : (H : Type) → List (DataW H) → Bool := fun _ ds => decide (uptoBulkAll ds ≤ 1048576)
def OpenSpec.upto (s : _root_.Go.ChangeSpec) : _root_.Go.OpenSpec := { _root_.Go.OpenSpec.ofChange s with cond := some uptoSmall }

/-- 'cressetlaw01.CodecSums', WHERE WHAT IT READS IS OF BULK AT MOST 1048576: true; the input reads as it did. -/
def codecSumsUptoRow : OpenClaim := { program := "ytphdinelioendaa", sum := "6d70604cfa289eded3771963d2c6475599bcae1970a1a290ed32ad5653b535f4", func := "cresset/cressetlaw01.CodecSums", spec := "codecSums", apart := false, narrowed := true }
def CodecSumsUptoSaid : Prop := codecSumsUptoRow.holds Try.pinned (OpenSpec.upto codecSumsSpec)

/-- 'cressetlaw01.CodecInts', WHERE WHAT IT READS IS OF BULK AT MOST 1048576: true; the input reads as it did. -/
def codecIntsUptoRow : OpenClaim := { program := "ytphdinelioendaa", sum := "6d70604cfa289eded3771963d2c6475599bcae1970a1a290ed32ad5653b535f4", func := "cresset/cressetlaw01.CodecInts", spec := "codecInts", apart := false, narrowed := true }
def CodecIntsUptoSaid : Prop := codecIntsUptoRow.holds Try.pinned (OpenSpec.upto codecIntsSpec)

/-- 'cressetlaw01.CodecWalk', WHERE WHAT IT READS IS OF BULK AT MOST 1048576: true; the input reads as it did. -/
def codecWalkUptoRow : OpenClaim := { program := "ytphdinelioendaa", sum := "6d70604cfa289eded3771963d2c6475599bcae1970a1a290ed32ad5653b535f4", func := "cresset/cressetlaw01.CodecWalk", spec := "codecWalk", unfollowed := true, recurses := true, apart := false, narrowed := true }
def CodecWalkUptoSaid : Prop := codecWalkUptoRow.holds Try.pinned (OpenSpec.upto codecWalkSpec)

/-- 'cressetlaw01.CodecOne', WHERE WHAT IT READS IS OF BULK AT MOST 1048576: true; the input reads as it did. -/
def codecOneUptoRow : OpenClaim := { program := "ytphdinelioendaa", sum := "6d70604cfa289eded3771963d2c6475599bcae1970a1a290ed32ad5653b535f4", func := "cresset/cressetlaw01.CodecOne", spec := "codecOne", apart := false, narrowed := true }
def CodecOneUptoSaid : Prop := codecOneUptoRow.holds Try.pinned (OpenSpec.upto codecOneSpec)

/-- 'cressetlaw01.CodecHeads', WHERE WHAT IT READS IS OF BULK AT MOST 1048576: true; the input reads as it did. -/
def codecHeadsUptoRow : OpenClaim := { program := "ytphdinelioendaa", sum := "6d70604cfa289eded3771963d2c6475599bcae1970a1a290ed32ad5653b535f4", func := "cresset/cressetlaw01.CodecHeads", spec := "codecHeads", apart := false, narrowed := true }
def CodecHeadsUptoSaid : Prop := codecHeadsUptoRow.holds Try.pinned (OpenSpec.upto codecHeadsSpec)

/-- 'cressetlaw01.CodecOrder', WHERE WHAT IT READS IS OF BULK AT MOST 1048576: true; the input reads as it did. -/
def codecOrderUptoRow : OpenClaim := { program := "ytphdinelioendaa", sum := "6d70604cfa289eded3771963d2c6475599bcae1970a1a290ed32ad5653b535f4", func := "cresset/cressetlaw01.CodecOrder", spec := "codecOrder", inPlace := ["internal/bytealg.Compare"], apart := false, narrowed := true }
def CodecOrderUptoSaid : Prop := codecOrderUptoRow.holds Try.pinned (OpenSpec.upto codecOrderSpec)

/-- 'cressetlaw01.CodecRows', WHERE WHAT IT READS IS OF BULK AT MOST 1048576: true; the input reads as it did. -/
def codecRowsUptoRow : OpenClaim := { program := "ytphdinelioendaa", sum := "6d70604cfa289eded3771963d2c6475599bcae1970a1a290ed32ad5653b535f4", func := "cresset/cressetlaw01.CodecRows", spec := "codecRows", inPlace := ["internal/bytealg.Compare"], apart := false, narrowed := true }
def CodecRowsUptoSaid : Prop := codecRowsUptoRow.holds Try.pinned (OpenSpec.upto codecRowsSpec)

/-- 'cressetlaw01.CodecBack', WHERE WHAT IT READS IS OF BULK AT MOST 1048576: true; the input reads as it did. -/
def codecBackUptoRow : OpenClaim := { program := "ytphdinelioendaa", sum := "6d70604cfa289eded3771963d2c6475599bcae1970a1a290ed32ad5653b535f4", func := "cresset/cressetlaw01.CodecBack", spec := "codecBack", apart := false, narrowed := true }
def CodecBackUptoSaid : Prop := codecBackUptoRow.holds Try.pinned (OpenSpec.upto codecBackSpec)

/-- 'cressetlaw01.CodecTexts', WHERE WHAT IT READS IS OF BULK AT MOST 1048576: true; the input reads as it did. -/
def codecTextsUptoRow : OpenClaim := { program := "ytphdinelioendaa", sum := "6d70604cfa289eded3771963d2c6475599bcae1970a1a290ed32ad5653b535f4", func := "cresset/cressetlaw01.CodecTexts", spec := "codecTexts", apart := false, narrowed := true }
def CodecTextsUptoSaid : Prop := codecTextsUptoRow.holds Try.pinned (OpenSpec.upto codecTextsSpec)

/-- 'cressetlaw01.CodecFrames', WHERE WHAT IT READS IS OF BULK AT MOST 1048576: true; the input reads as it did. -/
def codecFramesUptoRow : OpenClaim := { program := "ytphdinelioendaa", sum := "6d70604cfa289eded3771963d2c6475599bcae1970a1a290ed32ad5653b535f4", func := "cresset/cressetlaw01.CodecFrames", spec := "codecFrames", apart := false, narrowed := true }
def CodecFramesUptoSaid : Prop := codecFramesUptoRow.holds Try.pinned (OpenSpec.upto codecFramesSpec)

/-- 'cressetlaw01.CodecTorn', WHERE WHAT IT READS IS OF BULK AT MOST 1048576: true; the input reads as it did. -/
def codecTornUptoRow : OpenClaim := { program := "ytphdinelioendaa", sum := "6d70604cfa289eded3771963d2c6475599bcae1970a1a290ed32ad5653b535f4", func := "cresset/cressetlaw01.CodecTorn", spec := "codecTorn", apart := false, narrowed := true }
def CodecTornUptoSaid : Prop := codecTornUptoRow.holds Try.pinned (OpenSpec.upto codecTornSpec)

/-- 'cressetlaw01.CodecOwn', WHERE WHAT IT READS IS OF BULK AT MOST 1048576: true; the input reads as it did. -/
def codecOwnUptoRow : OpenClaim := { program := "ytphdinelioendaa", sum := "6d70604cfa289eded3771963d2c6475599bcae1970a1a290ed32ad5653b535f4", func := "cresset/cressetlaw01.CodecOwn", spec := "codecOwn", apart := false, narrowed := true }
def CodecOwnUptoSaid : Prop := codecOwnUptoRow.holds Try.pinned (OpenSpec.upto codecOwnSpec)

end Rows
end Go.Proofs.Ytphdinelioendaa

/-
  No cell of these rows narrows 'for every input' (looked for: loops, veiled, ifaces, maps, wideKeys, modest, calm, conditions, laid).
  DERIVED. THE GIVEN ROWS OF THIS SEAT. 5 by the template 'for every input the law returns true; each argument reads behind the call as it read before'; 0 by the template 'total and deterministic' (their statements: YtookibpiiphmgaaTotals.lean).
  GIVEN WITH THE SEED: the statements are not yours to turn. If you find one false, say at which input.
  Laid BY PROGRAM, IN A SANDBOX (cutbox-rows.mjs): the forced cells as the released guide's own fill.sh prints them over the translation 9addebf1e67b05f1… (all of the seat's roots in one cut). By AI agents, Wed Nov 11 2026. No macro, syntax, notation, axiom, sorry.
-/
import Derived.Test.YtookibpiiphmgaaChecked
import GoSem.Claim
import GoSem.ClaimJoined
import GoSem.ClaimMapViews
import Derived.JoinedTies
import Derived.KernelRfl
namespace Go.Proofs.Ytookibpiiphmgaa
/- THE CELL 'sum', in the pinned program and in every row, IS THE sha256 OF THE DUMP (.gsa) THAT YtookibpiiphmgaaProg.lean LOADS. Nothing in Lean hashes anything: it is a label: what it is worth is what the hold of that sum in a sandbox is worth. -/
noncomputable def Try.pinned : Pinned := { name := "ytookibpiiphmgaa", sum := "9addebf1e67b05f10651a5f5f29e25673a3d52578ce70ffd5deeed1ed3ddfa0e", checked := Try.checked }
namespace Rows
def none {H : Type} : Left H := { results := [], args := [] }

/-- 'cressetlaw22.TxnRecord': WHATEVER THE INPUT: true; the input reads as it did. -/
def txnRecordSpec : ChangeSpec := { name := "txnRecord", fn := fun _ => fun
  | [d1, d2] => { results := [.lit (.bool true)], args := [d1, d2] }
  | _ => none }
def txnRecordRow : OpenClaim := { program := "ytookibpiiphmgaa", sum := "9addebf1e67b05f10651a5f5f29e25673a3d52578ce70ffd5deeed1ed3ddfa0e", func := "cresset/cressetlaw22.TxnRecord", spec := "txnRecord", unfollowed := true, recurses := true, apart := false }
def TxnRecordSaid : Prop := txnRecordRow.holds Try.pinned (OpenSpec.ofChange txnRecordSpec)

/-- ITS FALSE NEIGHBOUR: 'it returns false'. Refute it at one input. -/
def txnRecordWrong : ChangeSpec := { name := "txnRecord", fn := fun _ => fun
  | [d1, d2] => { results := [.lit (.bool false)], args := [d1, d2] }
  | _ => none }
def TxnRecordWrongFalsely : Prop := txnRecordRow.holds Try.pinned (OpenSpec.ofChange txnRecordWrong)

/-- 'cressetlaw22.TxnLimits': WHATEVER THE INPUT: true; the input reads as it did. -/
def txnLimitsSpec : ChangeSpec := { name := "txnLimits", fn := fun _ => fun
  | [d] => { results := [.lit (.bool true)], args := [d] }
  | _ => none }
def txnLimitsRow : OpenClaim := { program := "ytookibpiiphmgaa", sum := "9addebf1e67b05f10651a5f5f29e25673a3d52578ce70ffd5deeed1ed3ddfa0e", func := "cresset/cressetlaw22.TxnLimits", spec := "txnLimits", unfollowed := true, recurses := true, apart := false }
def TxnLimitsSaid : Prop := txnLimitsRow.holds Try.pinned (OpenSpec.ofChange txnLimitsSpec)

/-- ITS FALSE NEIGHBOUR: 'it returns false'. Refute it at one input. -/
def txnLimitsWrong : ChangeSpec := { name := "txnLimits", fn := fun _ => fun
  | [d] => { results := [.lit (.bool false)], args := [d] }
  | _ => none }
def TxnLimitsWrongFalsely : Prop := txnLimitsRow.holds Try.pinned (OpenSpec.ofChange txnLimitsWrong)

/-- 'cressetlaw22.TxnOwn': WHATEVER THE INPUT: true; the input reads as it did. -/
def txnOwnSpec : ChangeSpec := { name := "txnOwn", fn := fun _ => fun
  | [d1, d2] => { results := [.lit (.bool true)], args := [d1, d2] }
  | _ => none }
def txnOwnRow : OpenClaim := { program := "ytookibpiiphmgaa", sum := "9addebf1e67b05f10651a5f5f29e25673a3d52578ce70ffd5deeed1ed3ddfa0e", func := "cresset/cressetlaw22.TxnOwn", spec := "txnOwn", unfollowed := true, recurses := true, apart := false }
def TxnOwnSaid : Prop := txnOwnRow.holds Try.pinned (OpenSpec.ofChange txnOwnSpec)

/-- ITS FALSE NEIGHBOUR: 'it returns false'. Refute it at one input. -/
def txnOwnWrong : ChangeSpec := { name := "txnOwn", fn := fun _ => fun
  | [d1, d2] => { results := [.lit (.bool false)], args := [d1, d2] }
  | _ => none }
def TxnOwnWrongFalsely : Prop := txnOwnRow.holds Try.pinned (OpenSpec.ofChange txnOwnWrong)

/-- 'cressetlaw22.TxnRanges': WHATEVER THE INPUT: true; the input reads as it did. -/
def txnRangesSpec : ChangeSpec := { name := "txnRanges", fn := fun _ => fun
  | [d1, d2] => { results := [.lit (.bool true)], args := [d1, d2] }
  | _ => none }
def txnRangesRow : OpenClaim := { program := "ytookibpiiphmgaa", sum := "9addebf1e67b05f10651a5f5f29e25673a3d52578ce70ffd5deeed1ed3ddfa0e", func := "cresset/cressetlaw22.TxnRanges", spec := "txnRanges", inPlace := ["internal/bytealg.abigen_runtime_cmpstring"], unfollowed := true, recurses := true, apart := false }
def TxnRangesSaid : Prop := txnRangesRow.holds Try.pinned (OpenSpec.ofChange txnRangesSpec)

/-- ITS FALSE NEIGHBOUR: 'it returns false'. Refute it at one input. -/
def txnRangesWrong : ChangeSpec := { name := "txnRanges", fn := fun _ => fun
  | [d1, d2] => { results := [.lit (.bool false)], args := [d1, d2] }
  | _ => none }
def TxnRangesWrongFalsely : Prop := txnRangesRow.holds Try.pinned (OpenSpec.ofChange txnRangesWrong)

/-- 'cressetlaw22.TxnNone': WHATEVER THE INPUT: true; the input reads as it did. -/
def txnNoneSpec : ChangeSpec := { name := "txnNone", fn := fun _ => fun
  | [d] => { results := [.lit (.bool true)], args := [d] }
  | _ => none }
def txnNoneRow : OpenClaim := { program := "ytookibpiiphmgaa", sum := "9addebf1e67b05f10651a5f5f29e25673a3d52578ce70ffd5deeed1ed3ddfa0e", func := "cresset/cressetlaw22.TxnNone", spec := "txnNone", inPlace := ["internal/bytealg.abigen_runtime_cmpstring", "maps.clone"], unfollowed := true, recurses := true, apart := false }
def TxnNoneSaid : Prop := txnNoneRow.holds Try.pinned (OpenSpec.ofChange txnNoneSpec)

/-- ITS FALSE NEIGHBOUR: 'it returns false'. Refute it at one input. -/
def txnNoneWrong : ChangeSpec := { name := "txnNone", fn := fun _ => fun
  | [d] => { results := [.lit (.bool false)], args := [d] }
  | _ => none }
def TxnNoneWrongFalsely : Prop := txnNoneRow.holds Try.pinned (OpenSpec.ofChange txnNoneWrong)

/- THE SECOND FORM. 'bulk': how many values and letters a reading holds, each counted each time it is reached (what is shared counts as often as it is met; a slice's spare places count too). A statement '..UptoSaid' is the law's where the arguments, and the package variables that the reading takes, are together of bulk at most 1048576: NARROWER than '..Said'. Prove '..Said' where nothing that the law and all that it calls make is longer than what came in: it says more and counts as full. Else prove '..UptoSaid'. A law counts once. -/
mutual
def uptoBulk {H : Type} : DataW H → Nat
  | .lit (.string bytes) => bytes.length + 1
  | .lit _ => 1
  | .nil => 1
  | .ptr d => uptoBulk d + 1
  | .slice elems spare => uptoBulkAll elems + uptoBulkAll spare + 1
  | .agg parts => uptoBulkAll parts + 1
  | .iface _ d => uptoBulk d + 1
  | .map entries => uptoBulkEntries entries + 1
  | .held _ => 1
def uptoBulkAll {H : Type} : List (DataW H) → Nat
  | [] => 0
  | d :: r => uptoBulk d + uptoBulkAll r
def uptoBulkEntries {H : Type} : List (Lit × DataW H) → Nat
  | [] => 0
  | x :: r => uptoBulkEntry x + uptoBulkEntries r
def uptoBulkEntry {H : Type} : Lit × DataW H → Nat
  | (.string bytes, d) => bytes.length + uptoBulk d + 1
  | (_, d) => uptoBulk d + 1
 end
def uptoSmall : (H : Type) → List (DataW H) → Bool := fun _ ds => decide (uptoBulkAll ds ≤ 1048576)
def OpenSpec.upto (s : _root_.Go.ChangeSpec) : _root_.Go.OpenSpec := { _root_.Go.OpenSpec.ofChange s with cond := some uptoSmall }

/-- 'cressetlaw22.TxnRecord', WHERE WHAT IT READS IS OF BULK AT MOST 1048576: true; the input reads as it did. -/
def txnRecordUptoRow : OpenClaim := { program := "ytookibpiiphmgaa", sum := "9addebf1e67b05f10651a5f5f29e25673a3d52578ce70ffd5deeed1ed3ddfa0e", func := "cresset/cressetlaw22.TxnRecord", spec := "txnRecord", unfollowed := true, recurses := true, apart := false, narrowed := true }
def TxnRecordUptoSaid : Prop := txnRecordUptoRow.holds Try.pinned (OpenSpec.upto txnRecordSpec)

/-- 'cressetlaw22.TxnLimits', WHERE WHAT IT READS IS OF BULK AT MOST 1048576: true; the input reads as it did. -/
def txnLimitsUptoRow : OpenClaim := { program := "ytookibpiiphmgaa", sum := "9addebf1e67b05f10651a5f5f29e25673a3d52578ce70ffd5deeed1ed3ddfa0e", func := "cresset/cressetlaw22.TxnLimits", spec := "txnLimits", unfollowed := true, recurses := true, apart := false, narrowed := true }
def TxnLimitsUptoSaid : Prop := txnLimitsUptoRow.holds Try.pinned (OpenSpec.upto txnLimitsSpec)

/-- 'cressetlaw22.TxnOwn', WHERE WHAT IT READS IS OF BULK AT MOST 1048576: true; the input reads as it did. -/
def txnOwnUptoRow : OpenClaim := { program := "ytookibpiiphmgaa", sum := "9addebf1e67b05f10651a5f5f29e25673a3d52578ce70ffd5deeed1ed3ddfa0e", func := "cresset/cressetlaw22.TxnOwn", spec := "txnOwn", unfollowed := true, recurses := true, apart := false, narrowed := true }
def TxnOwnUptoSaid : Prop := txnOwnUptoRow.holds Try.pinned (OpenSpec.upto txnOwnSpec)

/-- 'cressetlaw22.TxnRanges', WHERE WHAT IT READS IS OF BULK AT MOST 1048576: true; the input reads as it did. -/
def txnRangesUptoRow : OpenClaim := { program := "ytookibpiiphmgaa", sum := "9addebf1e67b05f10651a5f5f29e25673a3d52578ce70ffd5deeed1ed3ddfa0e", func := "cresset/cressetlaw22.TxnRanges", spec := "txnRanges", inPlace := ["internal/bytealg.abigen_runtime_cmpstring"], unfollowed := true, recurses := true, apart := false, narrowed := true }
def TxnRangesUptoSaid : Prop := txnRangesUptoRow.holds Try.pinned (OpenSpec.upto txnRangesSpec)

/-- 'cressetlaw22.TxnNone', WHERE WHAT IT READS IS OF BULK AT MOST 1048576: true; the input reads as it did. -/
def txnNoneUptoRow : OpenClaim := { program := "ytookibpiiphmgaa", sum := "9addebf1e67b05f10651a5f5f29e25673a3d52578ce70ffd5deeed1ed3ddfa0e", func := "cresset/cressetlaw22.TxnNone", spec := "txnNone", inPlace := ["internal/bytealg.abigen_runtime_cmpstring", "maps.clone"], unfollowed := true, recurses := true, apart := false, narrowed := true }
def TxnNoneUptoSaid : Prop := txnNoneUptoRow.holds Try.pinned (OpenSpec.upto txnNoneSpec)

end Rows
end Go.Proofs.Ytookibpiiphmgaa

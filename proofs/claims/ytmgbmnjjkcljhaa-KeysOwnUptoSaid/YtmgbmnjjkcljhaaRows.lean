/-
  No cell of these rows narrows 'for every input' (looked for: loops, veiled, ifaces, maps, wideKeys, modest, calm, conditions, laid).
  DERIVED. THE GIVEN ROWS OF THIS SEAT. 8 by the template 'for every input the law returns true; each argument reads behind the call as it read before'; 0 by the template 'total and deterministic' (their statements: YtmgbmnjjkcljhaaTotals.lean).
  GIVEN WITH THE SEED: the statements are not yours to turn. If you find one false, say at which input.
  Laid BY PROGRAM, IN A SANDBOX (cutbox-rows.mjs): the forced cells as the released guide's own fill.sh prints them over the translation 42434d9dd1ab5575… (all of the seat's roots in one cut). By AI agents, Wed Nov 11 2026. No macro, syntax, notation, axiom, sorry.
-/
import Derived.Test.YtmgbmnjjkcljhaaChecked
import GoSem.Claim
import GoSem.ClaimJoined
import GoSem.ClaimMapViews
import Derived.JoinedTies
import Derived.KernelRfl
namespace Go.Proofs.Ytmgbmnjjkcljhaa
/- THE CELL 'sum', in the pinned program and in every row, IS THE sha256 OF THE DUMP (.gsa) THAT YtmgbmnjjkcljhaaProg.lean LOADS. Nothing in Lean hashes anything: it is a label: what it is worth is what the hold of that sum in a sandbox is worth. -/
noncomputable def Try.pinned : Pinned := { name := "ytmgbmnjjkcljhaa", sum := "42434d9dd1ab557565020e26f9d57c0df493baa59cdfbee270676641cee935c3", checked := Try.checked }
namespace Rows
def none {H : Type} : Left H := { results := [], args := [] }

/-- 'cressetlaw05.KeysParts': WHATEVER THE INPUT: true; the input reads as it did. -/
def keysPartsSpec : ChangeSpec := { name := "keysParts", fn := fun _ => fun
  | [d1, d2] => { results := [.lit (.bool true)], args := [d1, d2] }
  | _ => none }
def keysPartsRow : OpenClaim := { program := "ytmgbmnjjkcljhaa", sum := "42434d9dd1ab557565020e26f9d57c0df493baa59cdfbee270676641cee935c3", func := "cresset/cressetlaw05.KeysParts", spec := "keysParts", apart := false }
def KeysPartsSaid : Prop := keysPartsRow.holds Try.pinned (OpenSpec.ofChange keysPartsSpec)

/-- ITS FALSE NEIGHBOUR: 'it returns false'. Refute it at one input. -/
def keysPartsWrong : ChangeSpec := { name := "keysParts", fn := fun _ => fun
  | [d1, d2] => { results := [.lit (.bool false)], args := [d1, d2] }
  | _ => none }
def KeysPartsWrongFalsely : Prop := keysPartsRow.holds Try.pinned (OpenSpec.ofChange keysPartsWrong)

/-- 'cressetlaw05.KeysPrefixes': WHATEVER THE INPUT: true; the input reads as it did. -/
def keysPrefixesSpec : ChangeSpec := { name := "keysPrefixes", fn := fun _ => fun
  | [d1, d2] => { results := [.lit (.bool true)], args := [d1, d2] }
  | _ => none }
def keysPrefixesRow : OpenClaim := { program := "ytmgbmnjjkcljhaa", sum := "42434d9dd1ab557565020e26f9d57c0df493baa59cdfbee270676641cee935c3", func := "cresset/cressetlaw05.KeysPrefixes", spec := "keysPrefixes", apart := false }
def KeysPrefixesSaid : Prop := keysPrefixesRow.holds Try.pinned (OpenSpec.ofChange keysPrefixesSpec)

/-- ITS FALSE NEIGHBOUR: 'it returns false'. Refute it at one input. -/
def keysPrefixesWrong : ChangeSpec := { name := "keysPrefixes", fn := fun _ => fun
  | [d1, d2] => { results := [.lit (.bool false)], args := [d1, d2] }
  | _ => none }
def KeysPrefixesWrongFalsely : Prop := keysPrefixesRow.holds Try.pinned (OpenSpec.ofChange keysPrefixesWrong)

/-- 'cressetlaw05.KeysCovered': WHATEVER THE INPUT: true; the input reads as it did. -/
def keysCoveredSpec : ChangeSpec := { name := "keysCovered", fn := fun _ => fun
  | [d1, d2, d3] => { results := [.lit (.bool true)], args := [d1, d2, d3] }
  | _ => none }
def keysCoveredRow : OpenClaim := { program := "ytmgbmnjjkcljhaa", sum := "42434d9dd1ab557565020e26f9d57c0df493baa59cdfbee270676641cee935c3", func := "cresset/cressetlaw05.KeysCovered", spec := "keysCovered", apart := false }
def KeysCoveredSaid : Prop := keysCoveredRow.holds Try.pinned (OpenSpec.ofChange keysCoveredSpec)

/-- ITS FALSE NEIGHBOUR: 'it returns false'. Refute it at one input. -/
def keysCoveredWrong : ChangeSpec := { name := "keysCovered", fn := fun _ => fun
  | [d1, d2, d3] => { results := [.lit (.bool false)], args := [d1, d2, d3] }
  | _ => none }
def KeysCoveredWrongFalsely : Prop := keysCoveredRow.holds Try.pinned (OpenSpec.ofChange keysCoveredWrong)

/-- 'cressetlaw05.KeysAsks': WHATEVER THE INPUT: true; the input reads as it did. -/
def keysAsksSpec : ChangeSpec := { name := "keysAsks", fn := fun _ => fun
  | [d1, d2, d3] => { results := [.lit (.bool true)], args := [d1, d2, d3] }
  | _ => none }
def keysAsksRow : OpenClaim := { program := "ytmgbmnjjkcljhaa", sum := "42434d9dd1ab557565020e26f9d57c0df493baa59cdfbee270676641cee935c3", func := "cresset/cressetlaw05.KeysAsks", spec := "keysAsks", apart := false }
def KeysAsksSaid : Prop := keysAsksRow.holds Try.pinned (OpenSpec.ofChange keysAsksSpec)

/-- ITS FALSE NEIGHBOUR: 'it returns false'. Refute it at one input. -/
def keysAsksWrong : ChangeSpec := { name := "keysAsks", fn := fun _ => fun
  | [d1, d2, d3] => { results := [.lit (.bool false)], args := [d1, d2, d3] }
  | _ => none }
def KeysAsksWrongFalsely : Prop := keysAsksRow.holds Try.pinned (OpenSpec.ofChange keysAsksWrong)

/-- 'cressetlaw05.KeysFew': WHATEVER THE INPUT: true; the input reads as it did. -/
def keysFewSpec : ChangeSpec := { name := "keysFew", fn := fun _ => fun
  | [d1, d2] => { results := [.lit (.bool true)], args := [d1, d2] }
  | _ => none }
def keysFewRow : OpenClaim := { program := "ytmgbmnjjkcljhaa", sum := "42434d9dd1ab557565020e26f9d57c0df493baa59cdfbee270676641cee935c3", func := "cresset/cressetlaw05.KeysFew", spec := "keysFew", inPlace := ["internal/bytealg.abigen_runtime_cmpstring"], unfollowed := true, recurses := true, apart := false }
def KeysFewSaid : Prop := keysFewRow.holds Try.pinned (OpenSpec.ofChange keysFewSpec)

/-- ITS FALSE NEIGHBOUR: 'it returns false'. Refute it at one input. -/
def keysFewWrong : ChangeSpec := { name := "keysFew", fn := fun _ => fun
  | [d1, d2] => { results := [.lit (.bool false)], args := [d1, d2] }
  | _ => none }
def KeysFewWrongFalsely : Prop := keysFewRow.holds Try.pinned (OpenSpec.ofChange keysFewWrong)

/-- 'cressetlaw05.KeysOwn': WHATEVER THE INPUT: true; the input reads as it did. -/
def keysOwnSpec : ChangeSpec := { name := "keysOwn", fn := fun _ => fun
  | [d1, d2] => { results := [.lit (.bool true)], args := [d1, d2] }
  | _ => none }
def keysOwnRow : OpenClaim := { program := "ytmgbmnjjkcljhaa", sum := "42434d9dd1ab557565020e26f9d57c0df493baa59cdfbee270676641cee935c3", func := "cresset/cressetlaw05.KeysOwn", spec := "keysOwn", inPlace := ["internal/bytealg.abigen_runtime_cmpstring"], unfollowed := true, recurses := true, apart := false }
def KeysOwnSaid : Prop := keysOwnRow.holds Try.pinned (OpenSpec.ofChange keysOwnSpec)

/-- ITS FALSE NEIGHBOUR: 'it returns false'. Refute it at one input. -/
def keysOwnWrong : ChangeSpec := { name := "keysOwn", fn := fun _ => fun
  | [d1, d2] => { results := [.lit (.bool false)], args := [d1, d2] }
  | _ => none }
def KeysOwnWrongFalsely : Prop := keysOwnRow.holds Try.pinned (OpenSpec.ofChange keysOwnWrong)

/-- 'cressetlaw05.KeysJoins': WHATEVER THE INPUT: true; the input reads as it did. -/
def keysJoinsSpec : ChangeSpec := { name := "keysJoins", fn := fun _ => fun
  | [d1, d2, d3] => { results := [.lit (.bool true)], args := [d1, d2, d3] }
  | _ => none }
def keysJoinsRow : OpenClaim := { program := "ytmgbmnjjkcljhaa", sum := "42434d9dd1ab557565020e26f9d57c0df493baa59cdfbee270676641cee935c3", func := "cresset/cressetlaw05.KeysJoins", spec := "keysJoins", inPlace := ["internal/bytealg.abigen_runtime_cmpstring"], unfollowed := true, recurses := true, apart := false }
def KeysJoinsSaid : Prop := keysJoinsRow.holds Try.pinned (OpenSpec.ofChange keysJoinsSpec)

/-- ITS FALSE NEIGHBOUR: 'it returns false'. Refute it at one input. -/
def keysJoinsWrong : ChangeSpec := { name := "keysJoins", fn := fun _ => fun
  | [d1, d2, d3] => { results := [.lit (.bool false)], args := [d1, d2, d3] }
  | _ => none }
def KeysJoinsWrongFalsely : Prop := keysJoinsRow.holds Try.pinned (OpenSpec.ofChange keysJoinsWrong)

/-- 'cressetlaw05.KeysMembers': WHATEVER THE INPUT: true; the input reads as it did. -/
def keysMembersSpec : ChangeSpec := { name := "keysMembers", fn := fun _ => fun
  | [d1, d2, d3] => { results := [.lit (.bool true)], args := [d1, d2, d3] }
  | _ => none }
def keysMembersRow : OpenClaim := { program := "ytmgbmnjjkcljhaa", sum := "42434d9dd1ab557565020e26f9d57c0df493baa59cdfbee270676641cee935c3", func := "cresset/cressetlaw05.KeysMembers", spec := "keysMembers", inPlace := ["internal/bytealg.abigen_runtime_cmpstring"], unfollowed := true, recurses := true, apart := false }
def KeysMembersSaid : Prop := keysMembersRow.holds Try.pinned (OpenSpec.ofChange keysMembersSpec)

/-- ITS FALSE NEIGHBOUR: 'it returns false'. Refute it at one input. -/
def keysMembersWrong : ChangeSpec := { name := "keysMembers", fn := fun _ => fun
  | [d1, d2, d3] => { results := [.lit (.bool false)], args := [d1, d2, d3] }
  | _ => none }
def KeysMembersWrongFalsely : Prop := keysMembersRow.holds Try.pinned (OpenSpec.ofChange keysMembersWrong)

/- THE SECOND FORM. 'bulk': how many values and letters a reading holds, each counted each time it is reached (what is shared counts as often as it is met; a slice's spare places count too). A statement '..UptoSaid' is the law's where the arguments, and the package variables that the reading takes, are together of bulk at most 1048576: NARROWER than '..Said'. Prove '..Said' where nothing that the law and all that it calls make is longer than what came in: it says more and counts as full. Else prove '..UptoSaid'. A law counts once. -/
mutual
def uptoBulk {H : Type} : DataW H → Nat
  | .lit (.string bytes) => bytes.length + 1
  | .lit _ => 1
  | .nil => 1
  | .ptr d => uptoBulk d + 1
  | .slice elems spare => uptoBulkAll elems + uptoBulkAll spare + 1
  | .agg parts => uptoBulkAll parts + 1
  | .iface _ d => uptoBulk d + 1
  | .map entries => uptoBulkEntries entries + 1
  | .held _ => 1
def uptoBulkAll {H : Type} : List (DataW H) → Nat
  | [] => 0
  | d :: r => uptoBulk d + uptoBulkAll r
def uptoBulkEntries {H : Type} : List (Lit × DataW H) → Nat
  | [] => 0
  | x :: r => uptoBulkEntry x + uptoBulkEntries r
def uptoBulkEntry {H : Type} : Lit × DataW H → Nat
  | (.string bytes, d) => bytes.length + uptoBulk d + 1
  | (_, d) => uptoBulk d + 1
 end
def uptoSmall : (H : Type) → List (DataW H) → Bool := fun _ ds => decide (uptoBulkAll ds ≤ 1048576)
def OpenSpec.upto (s : _root_.Go.ChangeSpec) : _root_.Go.OpenSpec := { _root_.Go.OpenSpec.ofChange s with cond := some uptoSmall }

/-- 'cressetlaw05.KeysParts', WHERE WHAT IT READS IS OF BULK AT MOST 1048576: true; the input reads as it did. -/
def keysPartsUptoRow : OpenClaim := { program := "ytmgbmnjjkcljhaa", sum := "42434d9dd1ab557565020e26f9d57c0df493baa59cdfbee270676641cee935c3", func := "cresset/cressetlaw05.KeysParts", spec := "keysParts", apart := false, narrowed := true }
def KeysPartsUptoSaid : Prop := keysPartsUptoRow.holds Try.pinned (OpenSpec.upto keysPartsSpec)

/-- 'cressetlaw05.KeysPrefixes', WHERE WHAT IT READS IS OF BULK AT MOST 1048576: true; the input reads as it did. -/
def keysPrefixesUptoRow : OpenClaim := { program := "ytmgbmnjjkcljhaa", sum := "42434d9dd1ab557565020e26f9d57c0df493baa59cdfbee270676641cee935c3", func := "cresset/cressetlaw05.KeysPrefixes", spec := "keysPrefixes", apart := false, narrowed := true }
def KeysPrefixesUptoSaid : Prop := keysPrefixesUptoRow.holds Try.pinned (OpenSpec.upto keysPrefixesSpec)

/-- 'cressetlaw05.KeysCovered', WHERE WHAT IT READS IS OF BULK AT MOST 1048576: true; the input reads as it did. -/
def keysCoveredUptoRow : OpenClaim := { program := "ytmgbmnjjkcljhaa", sum := "42434d9dd1ab557565020e26f9d57c0df493baa59cdfbee270676641cee935c3", func := "cresset/cressetlaw05.KeysCovered", spec := "keysCovered", apart := false, narrowed := true }
def KeysCoveredUptoSaid : Prop := keysCoveredUptoRow.holds Try.pinned (OpenSpec.upto keysCoveredSpec)

/-- 'cressetlaw05.KeysAsks', WHERE WHAT IT READS IS OF BULK AT MOST 1048576: true; the input reads as it did. -/
def keysAsksUptoRow : OpenClaim := { program := "ytmgbmnjjkcljhaa", sum := "42434d9dd1ab557565020e26f9d57c0df493baa59cdfbee270676641cee935c3", func := "cresset/cressetlaw05.KeysAsks", spec := "keysAsks", apart := false, narrowed := true }
def KeysAsksUptoSaid : Prop := keysAsksUptoRow.holds Try.pinned (OpenSpec.upto keysAsksSpec)

/-- 'cressetlaw05.KeysFew', WHERE WHAT IT READS IS OF BULK AT MOST 1048576: true; the input reads as it did. -/
def keysFewUptoRow : OpenClaim := { program := "ytmgbmnjjkcljhaa", sum := "42434d9dd1ab557565020e26f9d57c0df493baa59cdfbee270676641cee935c3", func := "cresset/cressetlaw05.KeysFew", spec := "keysFew", inPlace := ["internal/bytealg.abigen_runtime_cmpstring"], unfollowed := true, recurses := true, apart := false, narrowed := true }
def KeysFewUptoSaid : Prop := keysFewUptoRow.holds Try.pinned (OpenSpec.upto keysFewSpec)

/-- 'cressetlaw05.KeysOwn', WHERE WHAT IT READS IS OF BULK AT MOST 1048576: true; the input reads as it did. -/
def keysOwnUptoRow : OpenClaim := { program := "ytmgbmnjjkcljhaa", sum := "42434d9dd1ab557565020e26f9d57c0df493baa59cdfbee270676641cee935c3", func := "cresset/cressetlaw05.KeysOwn", spec := "keysOwn", inPlace := ["internal/bytealg.abigen_runtime_cmpstring"], unfollowed := true, recurses := true, apart := false, narrowed := true }
def KeysOwnUptoSaid : Prop := keysOwnUptoRow.holds Try.pinned (OpenSpec.upto keysOwnSpec)

/-- 'cressetlaw05.KeysJoins', WHERE WHAT IT READS IS OF BULK AT MOST 1048576: true; the input reads as it did. -/
def keysJoinsUptoRow : OpenClaim := { program := "ytmgbmnjjkcljhaa", sum := "42434d9dd1ab557565020e26f9d57c0df493baa59cdfbee270676641cee935c3", func := "cresset/cressetlaw05.KeysJoins", spec := "keysJoins", inPlace := ["internal/bytealg.abigen_runtime_cmpstring"], unfollowed := true, recurses := true, apart := false, narrowed := true }
def KeysJoinsUptoSaid : Prop := keysJoinsUptoRow.holds Try.pinned (OpenSpec.upto keysJoinsSpec)

/-- 'cressetlaw05.KeysMembers', WHERE WHAT IT READS IS OF BULK AT MOST 1048576: true; the input reads as it did. -/
def keysMembersUptoRow : OpenClaim := { program := "ytmgbmnjjkcljhaa", sum := "42434d9dd1ab557565020e26f9d57c0df493baa59cdfbee270676641cee935c3", func := "cresset/cressetlaw05.KeysMembers", spec := "keysMembers", inPlace := ["internal/bytealg.abigen_runtime_cmpstring"], unfollowed := true, recurses := true, apart := false, narrowed := true }
def KeysMembersUptoSaid : Prop := keysMembersUptoRow.holds Try.pinned (OpenSpec.upto keysMembersSpec)

end Rows
end Go.Proofs.Ytmgbmnjjkcljhaa

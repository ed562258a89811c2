/-
Of the row RecordParts: printed walks and plain laws, merged (wip/claim2.py).
-/
import Derived.Test.YtkcdmoghnoodmaaQRecordParts9
import Derived.Laws.CopyRow
import Derived.Laws.IdiomCopy
import Derived.RangeFuncNested
import Derived.RangeFuncBound
import Derived.RangeFuncCalls
import Derived.RangeFuncLeaves
import Derived.RangeFuncMany
import Derived.RangeFuncFrom
import Derived.Shelf.Abstract
import Derived.Shelf.RegionOpen
import Derived.WalkKit
import Derived.OwnWalkIn
import Derived.TacticsInMore
import Derived.LoopNIn
import Derived.LoopIn
import Derived.Deep.Heap
import Derived.WalkMore
import Derived.Stop.RegionWithIn
set_option linter.unusedVariables false
set_option linter.unusedSimpArgs false
namespace Go.Proofs.YtkcdmoghnoodmaaW.Hp
open Go.RowKit Go.Proofs.YtkcdmoghnoodmaaW.PrintWords Go.Proofs.YtkcdmoghnoodmaaW.PrintMore
open Asn

section
variable {w0 W : World} {L : List (Nat × Asn)} {i p : Nat} {P : Program} {ops : Array Oper} {rest : List Oper} {o : Oper} {a : Act} {Q : Exit → Act → World → Prop} {α : Type}
theorem Hp.at_make (d : Kd α) (H : Hp w0 W L) (m e : Nat) (hgd : o.guard = none) {N : Tmp} (hd : o.dst = some N) (t : TypeId) (x y : Operand) (ho : o.op = .makeSlice t x y) (n : Nat) (hx : a.eval x = .int .i64 n) (hy : a.eval y = .int .i64 n)
    (ht : P.underlying t = some (.slice e)) (z : Value) (bytes : Nat) (hinfo : (P.info? e).map (fun i => (i.zero, i.size, i.bytes)) = some (some z, d.sz, bytes)) (hz : z.cells.size = d.sz) (hs0 : 0 < d.sz) (hb0 : 0 < bytes)
    (z0 : α) (hzero : d.M W 0 (fun _ => False) z0 z.cells.toList) (hl : n * bytes ≤ 281474976710656)
    (h : ∀ A c w1, n ≤ c → Hp w0 w1 (L ++ [(m, row d e (.slice A n c) (List.replicate n z0))]) → wpList P ops Q rest (a.put o.dst (.slice A n c)) w1) : wpList P ops Q (o :: rest) a W := by
  refine Kd.R_make d (w0 := W) 0 e hgd hd t x y ho (n : Int) hx hy ht z bytes hinfo hz hs0 hb0 z0 (ok := fun k => W.heap.size ≤ k) hzero (fun _ hk => hk.elim) (Nat.le_refl _) (by omega) (by simpa using hl) (Below.refl _ _) (Nat.zero_le _) ?_
  intro v1 w1 hR hb hg _
  rw [Int.toNat_natCast] at hR
  obtain ⟨A, c, hv⟩ := Kd.R_slice hR
  subst hv
  have hlen := (Kd.R_reads' hR).2.1
  rw [List.length_replicate] at hlen hR ⊢
  exact h A c w1 hlen (H.new m ⟨hg.os, hg.tape, hg.output, hg.size, fun k hk => hg.block k hk (by simp)⟩ hR)
end
end Go.Proofs.YtkcdmoghnoodmaaW.Hp

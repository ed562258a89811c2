/-
Of the row RecordParts: printed walks and plain laws, merged (wip/claim2.py).
-/
import Derived.Test.YtkcdmoghnoodmaaQRecordParts2
import Derived.Deep.RegionLaw
import Derived.Lib.SliceRun
set_option linter.unusedVariables false
set_option linter.unusedSimpArgs false
namespace Go.Proofs.YtkcdmoghnoodmaaW.Hp
open Go.RowKit Go.Proofs.YtkcdmoghnoodmaaW.PrintWords Go.Proofs.YtkcdmoghnoodmaaW.PrintMore
open Asn

section
variable {w0 w w' W : World} {L L' : List (Nat × Asn)} {i j m p q : Nat} {A B A' : Asn}
section
variable {α : Type} {d : Kd α} {e : Nat} {v : Value} {xs : List α}
theorem Hp.made (H : Hp w0 w L) (m : Nat) (hb : Below w.heap.size w w') (hR : d.R e w' w.heap.size (fun _ => True) v xs) : Hp w0 w' (L ++ [(m, row d e v xs)]) :=
  H.new m hb (Kd.R_lower (Kd.R_mono (Kd.R_bound hR) (fun _ hk => hk.2.1)) (Nat.zero_le _))
theorem Hp.came {A : Option Addr} {n : Nat} (hd : Kd.Heap d) (H : Hp w0 w L) (p : Nat) (hi : L[p]? = some (i, old w0 (fun _ => False))) (h : d.C w0 A n xs) : Hp w0 w (L ++ [(i, rd d A n xs)]) := H.read p hi (Kd.F_mono (Kd.C_F hd h) (fun _ _ => id))
theorem Hp.row_C {A : Option Addr} {n c : Nat} (H : Hp w0 w L) (p : Nat) (hi : L[p]? = some (i, row d e (.slice A n c) xs)) : n = xs.length ∧ n ≤ c ∧ d.C w A xs.length xs := H.fact p hi (fun _ h => Kd.R_reads' h)
end
theorem Tr.of {P : Program} {n : FuncId} {args : Array Value} {A : Asn} {B : Value → Asn} (h : ∀ (w : World) (S : Nat → Prop), A.P w S → Calls P n args w fun e w' => ∃ r, e = .returned r ∧ (B r).P w' S ∧ w'.os = w.os ∧ w'.tape = w.tape ∧ w'.output = w.output ∧ w.heap.size ≤ w'.heap.size ∧ ∀ k, k < w.heap.size → ¬ S k → w'.heap[k]? = w.heap[k]?) : Tr P n args top A B := by
  intro w U S _ hA _
  refine (h w S hA).mono ?_
  rintro e w' ⟨r, rfl, hB, h1, h2, h3, h4, h5⟩
  exact ⟨r, rfl, ⟨S, hB, fun _ hk => .inl hk⟩, h1, h2, h3, h4, h5⟩
end
end Go.Proofs.YtkcdmoghnoodmaaW.Hp

-- Written by a program of this session (wip/print2) out of Lean's print of the translation. Not trusted: Lean checks it.
import Derived.Test.YtmgbmnjjkcljhaaOpn
import Derived.Test.YtmgbmnjjkcljhaaBx0
namespace Go.Proofs.Ytmgbmnjjkcljhaa.B
open Go.Proofs.Ytmgbmnjjkcljhaa.Opn Go.Proofs.YtmgbmnjjkcljhaaW.PrintWords
theorem opn27 : Opn Try.prog 27 k27 ok27 bulk27 :=
  opn_struct Try.underlying27 rfl (opnF_cons (opn_string (t := 9) Try.underlying9 (by kernel_rfl)) rfl (opnF_last (opn_string (t := 9) Try.underlying9 (by kernel_rfl)) rfl)) (by kernel_rfl) (fun x : S27 => (x.f0, x.f1)) (fun p => (⟨p.1, p.2⟩ : S27)) (fun _ => rfl)
end Go.Proofs.Ytmgbmnjjkcljhaa.B

-- Written by a program of this session (wip/print2) out of Lean's print of the translation. Not trusted: Lean checks it.
import Derived.Test.YtphdinelioendaaOpn
import Derived.Test.YtphdinelioendaaBx0
namespace Go.Proofs.Ytphdinelioendaa.B
open Go.Proofs.Ytphdinelioendaa.Opn Go.Proofs.YtphdinelioendaaW.PrintWords
theorem opn46 : Opn Try.prog 46 k46 ok46 bulk46 :=
  opn_struct Try.underlying46 rfl (opnF_cons (opn_int (t := 2) Try.underlying2 (by kernel_rfl)) rfl (opnF_last (opn_int (t := 2) Try.underlying2 (by kernel_rfl)) rfl)) (by kernel_rfl) (fun x : S46 => (x.f0, x.f1)) (fun p => (⟨p.1, p.2⟩ : S46)) (fun _ => rfl)
end Go.Proofs.Ytphdinelioendaa.B

/-
Of the row ImageNone: printed walks and plain laws, merged (wip/claim2.py).
-/
import Derived.Test.YtkflgkmblebdmaaQImageNone1
import Derived.Test.YtkflgkmblebdmaaQImageNone3
namespace Go.Proofs.Ytkflgkmblebdmaa.B
open Go.Proofs.Ytkflgkmblebdmaa.Opn Go.Proofs.YtkflgkmblebdmaaW.PrintWords
theorem opn87 : Opn Try.prog 87 k87 ok87 bulk87 :=
  opn_struct Try.underlying87 rfl (opnF_cons (opn_int (t := 2) Try.underlying2 (by kernel_rfl)) rfl (opnF_cons (opn_string (t := 9) Try.underlying9 (by kernel_rfl)) rfl (opnF_last (opn_bool (t := 4) Try.underlying4 (by kernel_rfl)) rfl))) (by kernel_rfl) (fun x : S87 => (x.f0, x.f1, x.f2)) (fun p => (⟨p.1, p.2.1, p.2.2⟩ : S87)) (fun _ => rfl)
end Go.Proofs.Ytkflgkmblebdmaa.B

/-
Of the row ImageBack: printed walks and plain laws, merged (wip/claim2.py).
-/
import Derived.Test.YtkflgkmblebdmaaQImageBack1
import Derived.Test.YtkflgkmblebdmaaQImageBack3
namespace Go.Proofs.Ytkflgkmblebdmaa.B
open Go.Proofs.Ytkflgkmblebdmaa.Opn Go.Proofs.YtkflgkmblebdmaaW.PrintWords
theorem opn87 : Opn Try.prog 87 k87 ok87 bulk87 :=
  opn_struct Try.underlying87 rfl (opnF_cons (opn_int (t := 2) Try.underlying2 (by kernel_rfl)) rfl (opnF_cons (opn_string (t := 9) Try.underlying9 (by kernel_rfl)) rfl (opnF_last (opn_bool (t := 4) Try.underlying4 (by kernel_rfl)) rfl))) (by kernel_rfl) (fun x : S87 => (x.f0, x.f1, x.f2)) (fun p => (⟨p.1, p.2.1, p.2.2⟩ : S87)) (fun _ => rfl)
theorem opn33 : Opn Try.prog 33 k33 ok33 bulk33 :=
  opn_struct Try.underlying33 rfl (opnF_cons (opn_string (t := 9) Try.underlying9 (by kernel_rfl)) rfl (opnF_last (opn_slice (t := 31) (B := 32) (opn87) Try.underlying31 (by kernel_rfl) (by kernel_rfl)) rfl)) (by kernel_rfl) (fun x : S33 => (x.f0, x.f1)) (fun p => (⟨p.1, p.2⟩ : S33)) (fun _ => rfl)
end Go.Proofs.Ytkflgkmblebdmaa.B

/-
Of the row RecordApart: printed walks and plain laws, merged (wip/claim2.py).
-/
import Derived.Test.YtkcdmoghnoodmaaQRecordApart1
import Derived.Test.YtkcdmoghnoodmaaQRecordApart3
namespace Go.Proofs.Ytkcdmoghnoodmaa.B
open Go.Proofs.Ytkcdmoghnoodmaa.Opn Go.Proofs.YtkcdmoghnoodmaaW.PrintWords

theorem opn33 : Opn Try.prog 33 k33 ok33 bulk33 :=
  opn_struct Try.underlying33 rfl (opnF_cons (opn_string (t := 9) Try.underlying9 (by kernel_rfl)) rfl (opnF_cons (opn_string (t := 9) Try.underlying9 (by kernel_rfl)) rfl (opnF_last (opn_bool (t := 4) Try.underlying4 (by kernel_rfl)) rfl))) (by kernel_rfl) (fun x : S33 => (x.f0, x.f1, x.f2)) (fun p => (⟨p.1, p.2.1, p.2.2⟩ : S33)) (fun _ => rfl)
theorem opn24 : Opn Try.prog 24 k24 ok24 bulk24 :=
  opn_struct Try.underlying24 rfl (opnF_cons (opn_int (t := 2) Try.underlying2 (by kernel_rfl)) rfl (opnF_last (opn_slice (t := 22) (B := 40) (opn33) Try.underlying22 (by kernel_rfl) (by kernel_rfl)) rfl)) (by kernel_rfl) (fun x : S24 => (x.f0, x.f1)) (fun p => (⟨p.1, p.2⟩ : S24)) (fun _ => rfl)
end Go.Proofs.Ytkcdmoghnoodmaa.B

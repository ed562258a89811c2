/-
Of the row RecordParts: printed walks and plain laws, merged (wip/claim2.py).
-/
import Derived.Test.YtkcdmoghnoodmaaQRecordParts1
import Derived.Test.YtkcdmoghnoodmaaQRecordParts3
namespace Go.Proofs.Ytkcdmoghnoodmaa.B
open Go.Proofs.Ytkcdmoghnoodmaa.Opn Go.Proofs.YtkcdmoghnoodmaaW.PrintWords

theorem opn33 : Opn Try.prog 33 k33 ok33 bulk33 :=
  opn_struct Try.underlying33 rfl (opnF_cons (opn_string (t := 9) Try.underlying9 (by kernel_rfl)) rfl (opnF_cons (opn_string (t := 9) Try.underlying9 (by kernel_rfl)) rfl (opnF_last (opn_bool (t := 4) Try.underlying4 (by kernel_rfl)) rfl))) (by kernel_rfl) (fun x : S33 => (x.f0, x.f1, x.f2)) (fun p => (⟨p.1, p.2.1, p.2.2⟩ : S33)) (fun _ => rfl)
end Go.Proofs.Ytkcdmoghnoodmaa.B

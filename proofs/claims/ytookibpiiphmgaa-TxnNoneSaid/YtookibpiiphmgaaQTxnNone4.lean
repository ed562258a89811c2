/-
Of the row TxnNone: printed walks and plain laws, merged (wip/claim2.py).
-/
import Derived.Test.YtookibpiiphmgaaQTxnNone1
import Derived.Test.YtookibpiiphmgaaQTxnNone3
namespace Go.Proofs.Ytookibpiiphmgaa.B
open Go.Proofs.Ytookibpiiphmgaa.Opn Go.Proofs.YtookibpiiphmgaaW.PrintWords

theorem opn50 : Opn Try.prog 50 k50 ok50 bulk50 :=
  opn_struct Try.underlying50 rfl (opnF_cons (opn_string (t := 9) Try.underlying9 (by kernel_rfl)) rfl (opnF_last (opn_string (t := 9) Try.underlying9 (by kernel_rfl)) rfl)) (by kernel_rfl) (fun x : S50 => (x.f0, x.f1)) (fun p => (⟨p.1, p.2⟩ : S50)) (fun _ => rfl)
theorem opn30 : Opn Try.prog 30 k30 ok30 bulk30 :=
  opn_struct Try.underlying30 rfl (opnF_cons (opn_string (t := 9) Try.underlying9 (by kernel_rfl)) rfl (opnF_last (opn_string (t := 9) Try.underlying9 (by kernel_rfl)) rfl)) (by kernel_rfl) (fun x : S30 => (x.f0, x.f1)) (fun p => (⟨p.1, p.2⟩ : S30)) (fun _ => rfl)
theorem opn33 : Opn Try.prog 33 k33 ok33 bulk33 :=
  opn_struct Try.underlying33 rfl (opnF_cons (opn_int (t := 3) Try.underlying3 (by kernel_rfl)) rfl (opnF_cons (opn_string (t := 9) Try.underlying9 (by kernel_rfl)) rfl (opnF_cons (opn_string (t := 9) Try.underlying9 (by kernel_rfl)) rfl (opnF_cons (opn30) rfl (opnF_last (opn_slice (t := 31) (B := 32) (opn50) Try.underlying31 (by kernel_rfl) (by kernel_rfl)) rfl))))) (by kernel_rfl) (fun x : S33 => (x.f0, x.f1, x.f2, x.f3, x.f4)) (fun p => (⟨p.1, p.2.1, p.2.2.1, p.2.2.2.1, p.2.2.2.2⟩ : S33)) (fun _ => rfl)
end Go.Proofs.Ytookibpiiphmgaa.B

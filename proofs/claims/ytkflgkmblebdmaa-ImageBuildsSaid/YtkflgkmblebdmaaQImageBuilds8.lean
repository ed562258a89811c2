/-
Of the row ImageBuilds: printed walks and plain laws, merged (wip/claim2.py).
-/
import Derived.Test.YtkflgkmblebdmaaQImageBuilds1
import Derived.Test.YtkflgkmblebdmaaQImageBuilds3
namespace Go.Proofs.Ytkflgkmblebdmaa.B
open Go.Proofs.Ytkflgkmblebdmaa.Opn Go.Proofs.YtkflgkmblebdmaaW.PrintWords
theorem opn56 : Opn Try.prog 56 k56 ok56 bulk56 :=
  opn_struct Try.underlying56 rfl (opnF_cons (opn_string (t := 9) Try.underlying9 (by kernel_rfl)) rfl (opnF_cons (opn_string (t := 9) Try.underlying9 (by kernel_rfl)) rfl (opnF_last (opn_int (t := 2) Try.underlying2 (by kernel_rfl)) rfl))) (by kernel_rfl) (fun x : S56 => (x.f0, x.f1, x.f2)) (fun p => (⟨p.1, p.2.1, p.2.2⟩ : S56)) (fun _ => rfl)
theorem opn65 : Opn Try.prog 65 k65 ok65 bulk65 :=
  opn_struct Try.underlying65 rfl (opnF_cons (opn_int (t := 3) Try.underlying3 (by kernel_rfl)) rfl (opnF_cons (opn_slice (t := 38) (B := 40) (opn56) Try.underlying38 (by kernel_rfl) (by kernel_rfl)) rfl (opnF_last (opn_bool (t := 4) Try.underlying4 (by kernel_rfl)) rfl))) (by kernel_rfl) (fun x : S65 => (x.f0, x.f1, x.f2)) (fun p => (⟨p.1, p.2.1, p.2.2⟩ : S65)) (fun _ => rfl)
end Go.Proofs.Ytkflgkmblebdmaa.B

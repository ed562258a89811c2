/-
Of the row ValidDoes: printed walks and plain laws, merged (wip/claim2.py).
-/
import Derived.Test.YtgbmlkoblcfceaaQValidDoes1
import Derived.Test.YtgbmlkoblcfceaaQValidDoes3
namespace Go.Proofs.Ytgbmlkoblcfceaa.B
open Go.Proofs.Ytgbmlkoblcfceaa.Opn Go.Proofs.YtgbmlkoblcfceaaW.PrintWords
theorem opn65 : Opn Try.prog 65 k65 ok65 bulk65 :=
  opn_struct Try.underlying65 rfl (opnF_cons (opn_string (t := 9) Try.underlying9 (by kernel_rfl)) rfl (opnF_last (opn_string (t := 9) Try.underlying9 (by kernel_rfl)) rfl)) (by kernel_rfl) (fun x : S65 => (x.f0, x.f1)) (fun p => (⟨p.1, p.2⟩ : S65)) (fun _ => rfl)
theorem opn26 : Opn Try.prog 26 k26 ok26 bulk26 :=
  opn_struct Try.underlying26 rfl (opnF_cons (opn_slice (t := 23) (B := 16) (opn_string (t := 9) Try.underlying9 (by kernel_rfl)) Try.underlying23 (by kernel_rfl) (by kernel_rfl)) rfl (opnF_last (opn_slice (t := 24) (B := 32) (opn65) Try.underlying24 (by kernel_rfl) (by kernel_rfl)) rfl)) (by kernel_rfl) (fun x : S26 => (x.f0, x.f1)) (fun p => (⟨p.1, p.2⟩ : S26)) (fun _ => rfl)
theorem opn28 : Opn Try.prog 28 k28 ok28 bulk28 :=
  opn_struct Try.underlying28 rfl (opnF_cons (opn_int (t := 3) Try.underlying3 (by kernel_rfl)) rfl (opnF_cons (opn_int (t := 2) Try.underlying2 (by kernel_rfl)) rfl (opnF_cons (opn_int (t := 3) Try.underlying3 (by kernel_rfl)) rfl (opnF_cons (opn26) rfl (opnF_last (opn_slice (t := 23) (B := 16) (opn_string (t := 9) Try.underlying9 (by kernel_rfl)) Try.underlying23 (by kernel_rfl) (by kernel_rfl)) rfl))))) (by kernel_rfl) (fun x : S28 => (x.f0, x.f1, x.f2, x.f3, x.f4)) (fun p => (⟨p.1, p.2.1, p.2.2.1, p.2.2.2.1, p.2.2.2.2⟩ : S28)) (fun _ => rfl)
end Go.Proofs.Ytgbmlkoblcfceaa.B

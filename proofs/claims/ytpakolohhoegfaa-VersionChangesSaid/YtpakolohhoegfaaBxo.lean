-- Written by a program of this session (wip/print2) out of Lean's print of the translation. Not trusted: Lean checks it.
import Derived.Test.YtpakolohhoegfaaOpn
import Derived.Test.YtpakolohhoegfaaBx0
namespace Go.Proofs.Ytpakolohhoegfaa.B
open Go.Proofs.Ytpakolohhoegfaa.Opn Go.Proofs.YtpakolohhoegfaaW.PrintWords
theorem opn33 : Opn Try.prog 33 k33 ok33 bulk33 :=
  opn_struct Try.underlying33 rfl (opnF_cons (opn_int (t := 2) Try.underlying2 (by kernel_rfl)) rfl (opnF_cons (opn_string (t := 9) Try.underlying9 (by kernel_rfl)) rfl (opnF_last (opn_bool (t := 4) Try.underlying4 (by kernel_rfl)) rfl))) (by kernel_rfl) (fun x : S33 => (x.f0, x.f1, x.f2)) (fun p => (⟨p.1, p.2.1, p.2.2⟩ : S33)) (fun _ => rfl)
theorem opn50 : Opn Try.prog 50 k50 ok50 bulk50 :=
  opn_struct Try.underlying50 rfl (opnF_cons (opn_string (t := 9) Try.underlying9 (by kernel_rfl)) rfl (opnF_last (opn_string (t := 9) Try.underlying9 (by kernel_rfl)) rfl)) (by kernel_rfl) (fun x : S50 => (x.f0, x.f1)) (fun p => (⟨p.1, p.2⟩ : S50)) (fun _ => rfl)
theorem opn58 : Opn Try.prog 58 k58 ok58 bulk58 :=
  opn_struct Try.underlying58 rfl (opnF_cons (opn_string (t := 9) Try.underlying9 (by kernel_rfl)) rfl (opnF_cons (opn_string (t := 9) Try.underlying9 (by kernel_rfl)) rfl (opnF_last (opn_bool (t := 4) Try.underlying4 (by kernel_rfl)) rfl))) (by kernel_rfl) (fun x : S58 => (x.f0, x.f1, x.f2)) (fun p => (⟨p.1, p.2.1, p.2.2⟩ : S58)) (fun _ => rfl)
theorem opn60 : Opn Try.prog 60 k60 ok60 bulk60 :=
  opn_struct Try.underlying60 rfl (opnF_cons (opn_int (t := 2) Try.underlying2 (by kernel_rfl)) rfl (opnF_last (opn_slice (t := 41) (B := 40) (opn58) Try.underlying41 (by kernel_rfl) (by kernel_rfl)) rfl)) (by kernel_rfl) (fun x : S60 => (x.f0, x.f1)) (fun p => (⟨p.1, p.2⟩ : S60)) (fun _ => rfl)
end Go.Proofs.Ytpakolohhoegfaa.B

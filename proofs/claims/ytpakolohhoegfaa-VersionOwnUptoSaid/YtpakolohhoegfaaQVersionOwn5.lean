/-
Of the row VersionOwn: printed walks and plain laws, merged (wip/claim2.py).
-/
import Derived.Test.YtpakolohhoegfaaQVersionOwn1
import Derived.Test.YtpakolohhoegfaaQVersionOwn3
namespace Go.Proofs.Ytpakolohhoegfaa.B
open Go.Proofs.Ytpakolohhoegfaa.Opn Go.Proofs.YtpakolohhoegfaaW.PrintWords

theorem opn33 : Opn Try.prog 33 k33 ok33 bulk33 :=
  opn_struct Try.underlying33 rfl (opnF_cons (opn_int (t := 2) Try.underlying2 (by kernel_rfl)) rfl (opnF_cons (opn_string (t := 9) Try.underlying9 (by kernel_rfl)) rfl (opnF_last (opn_bool (t := 4) Try.underlying4 (by kernel_rfl)) rfl))) (by kernel_rfl) (fun x : S33 => (x.f0, x.f1, x.f2)) (fun p => (⟨p.1, p.2.1, p.2.2⟩ : S33)) (fun _ => rfl)
theorem opn50 : Opn Try.prog 50 k50 ok50 bulk50 :=
  opn_struct Try.underlying50 rfl (opnF_cons (opn_string (t := 9) Try.underlying9 (by kernel_rfl)) rfl (opnF_last (opn_string (t := 9) Try.underlying9 (by kernel_rfl)) rfl)) (by kernel_rfl) (fun x : S50 => (x.f0, x.f1)) (fun p => (⟨p.1, p.2⟩ : S50)) (fun _ => rfl)
theorem opn58 : Opn Try.prog 58 k58 ok58 bulk58 :=
  opn_struct Try.underlying58 rfl (opnF_cons (opn_string (t := 9) Try.underlying9 (by kernel_rfl)) rfl (opnF_cons (opn_string (t := 9) Try.underlying9 (by kernel_rfl)) rfl (opnF_last (opn_bool (t := 4) Try.underlying4 (by kernel_rfl)) rfl))) (by kernel_rfl) (fun x : S58 => (x.f0, x.f1, x.f2)) (fun p => (⟨p.1, p.2.1, p.2.2⟩ : S58)) (fun _ => rfl)
theorem opn60 : Opn Try.prog 60 k60 ok60 bulk60 :=
  opn_struct Try.underlying60 rfl (opnF_cons (opn_int (t := 2) Try.underlying2 (by kernel_rfl)) rfl (opnF_last (opn_slice (t := 41) (B := 40) (opn58) Try.underlying41 (by kernel_rfl) (by kernel_rfl)) rfl)) (by kernel_rfl) (fun x : S60 => (x.f0, x.f1)) (fun p => (⟨p.1, p.2⟩ : S60)) (fun _ => rfl)
theorem opn44 : Opn Try.prog 44 k44 ok44 bulk44 :=
  opn_struct Try.underlying44 rfl (opnF_cons (opn_string (t := 9) Try.underlying9 (by kernel_rfl)) rfl (opnF_last (opn_string (t := 9) Try.underlying9 (by kernel_rfl)) rfl)) (by kernel_rfl) (fun x : S44 => (x.f0, x.f1)) (fun p => (⟨p.1, p.2⟩ : S44)) (fun _ => rfl)
theorem opn46 : Opn Try.prog 46 k46 ok46 bulk46 :=
  opn_struct Try.underlying46 rfl (opnF_cons (opn_slice (t := 40) (B := 32) (opn50) Try.underlying40 (by kernel_rfl) (by kernel_rfl)) rfl (opnF_cons (opn_slice (t := 41) (B := 40) (opn58) Try.underlying41 (by kernel_rfl) (by kernel_rfl)) rfl (opnF_cons (opn_slice (t := 42) (B := 32) (opn60) Try.underlying42 (by kernel_rfl) (by kernel_rfl)) rfl (opnF_cons (opn44) rfl (opnF_cons (opn_int (t := 2) Try.underlying2 (by kernel_rfl)) rfl (opnF_last (opn_int (t := 3) Try.underlying3 (by kernel_rfl)) rfl)))))) (by kernel_rfl) (fun x : S46 => (x.f0, x.f1, x.f2, x.f3, x.f4, x.f5)) (fun p => (⟨p.1, p.2.1, p.2.2.1, p.2.2.2.1, p.2.2.2.2.1, p.2.2.2.2.2⟩ : S46)) (fun _ => rfl)
end Go.Proofs.Ytpakolohhoegfaa.B

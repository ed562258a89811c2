-- Written by a program of this session (wip/print2) out of Lean's print of the translation. Not trusted: Lean checks it.
import Derived.Test.YtkcdmoghnoodmaaBx0
namespace Go.Proofs.Ytkcdmoghnoodmaa.B
open Go.RowKit Go.Proofs.YtkcdmoghnoodmaaW.PrintWords Go.Proofs.YtkcdmoghnoodmaaW.PrintLast Go.Proofs.YtkcdmoghnoodmaaW.PrintMore Go.Proofs.YtkcdmoghnoodmaaW.Mine
attribute [local go_sem] max2_int min2_int max_two min_two max_three min_three max_four min_four str_gtr str_leq str_geq str_max str_min   -- for this text's walks alone
set_option linter.unusedVariables false
set_option linter.unusedSimpArgs false

/-! ### slices_Clip_byte_byte: function 110 -/
def slices_Clip_byte_byte.f (l0 : List Int) : Option (List Int) := some l0
set_option maxHeartbeats 400000 in
theorem slices_Clip_byte_byte.calls (A0 : Option Addr) (c0 : Nat) (l0 r : List Int) (w : World) (hr0 : Kd.C (Kd.int .u8) w A0 l0.length l0) (hc0 : l0.length ≤ c0) (h : slices_Clip_byte_byte.f l0 = some r) :
    Calls Try.prog 110 #[.slice A0 l0.length c0] w fun e w' => ∃ v0_ : Value, e = .returned (v0_) ∧ FullRow (Kd.int .u8) w' v0_ r ∧ Below w.heap.size w w' := by
  obtain rfl := Option.some.inj h
  have HR := Aside0.mk hr0
  clear hr0
  have h1 : (0 : Int) ≤ (l0.length : Int) := by omega
  have h2 : (l0.length : Int) ≤ (c0 : Int) := by omega
  go_enter Try.func110, Try.ntmps110
  go_wp2
  go_ret
  exact ⟨_, rfl, ⟨⟨A0, by first | rfl | (simp; done), HR.out⟩⟩, Below.refl _ _⟩

end Go.Proofs.Ytkcdmoghnoodmaa.B

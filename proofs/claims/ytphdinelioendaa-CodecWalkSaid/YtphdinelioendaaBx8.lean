-- Written by a program of this session (wip/print2) out of Lean's print of the translation. Not trusted: Lean checks it.
import Derived.Test.YtphdinelioendaaWalk
import Derived.Test.YtphdinelioendaaBx0
namespace Go.Proofs.Ytphdinelioendaa.B
open Go.RowKit Go.Proofs.YtphdinelioendaaW.PrintWords Go.Proofs.YtphdinelioendaaW.PrintLast Go.Proofs.YtphdinelioendaaW.PrintMore Go.Proofs.YtphdinelioendaaW.Mine
attribute [local go_sem] max2_int min2_int max_two min_two max_three min_three max_four min_four str_gtr str_leq str_geq str_max str_min   -- for this text's walks alone
set_option linter.unusedVariables false
set_option linter.unusedSimpArgs false

/-! ### cressetlaw01_walks: function 25 -/
-- IMPORT Derived.Test.YtphdinelioendaaWalk
def cressetlaw01_walks.f (_k : Nat) (l0 : List Int) (_a1 : Int) : Option (Bool) := if (∀ x ∈ l0, 0 ≤ x ∧ x < 256) ∧ l0.length ≤ 140737488355000 then some true else none
theorem cressetlaw01_walks.mono : ∀ a0 a1 k, LeO (cressetlaw01_walks.f k a0 a1) (cressetlaw01_walks.f (k + 1) a0 a1) := fun _ _ _ => LeO.refl _
theorem cressetlaw01_walks.calls (k : Nat) (A0 : Option Addr) (c0 : Nat) (l0 : List Int) (a1 : Int) (r : Bool) (w : World) (hr0 : Kd.C (Kd.int .u8) w A0 l0.length l0) (hc0 : l0.length ≤ c0) (h : cressetlaw01_walks.f k l0 a1 = some r) :
    Calls Try.prog 25 #[.slice A0 l0.length c0, .int .i64 a1] w fun e w' => e = .returned (.bool r) ∧ Below w.heap.size w w' := by
  unfold cressetlaw01_walks.f at h
  split at h
  · rename_i hb
    obtain rfl := Option.some.inj h
    exact callsIn_wide.1 (Go.Proofs.Ytphdinelioendaa.Walk.walks_in A0 c0 l0 a1 hb.1 hb.2 hc0 w hr0)
  · cases h

end Go.Proofs.Ytphdinelioendaa.B

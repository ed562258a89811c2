-- Written by a program of this session (wip/print2) out of Lean's print of the translation. Not trusted: Lean checks it.
import Derived.Test.YtkcdmoghnoodmaaBx0
import Derived.Test.YtkcdmoghnoodmaaBx6
import Derived.Test.YtkcdmoghnoodmaaBx11
namespace Go.Proofs.Ytkcdmoghnoodmaa.B
open Go.RowKit Go.Proofs.YtkcdmoghnoodmaaW.PrintWords Go.Proofs.YtkcdmoghnoodmaaW.PrintLast Go.Proofs.YtkcdmoghnoodmaaW.PrintMore Go.Proofs.YtkcdmoghnoodmaaW.Mine
attribute [local go_sem] max2_int min2_int max_two min_two max_three min_three max_four min_four str_gtr str_leq str_geq str_max str_min   -- for this text's walks alone
set_option linter.unusedVariables false
set_option linter.unusedSimpArgs false

/-! ### record_CheckMaster: function 22 -/
def stampB (a b : Int) : Bool := decide (a ≥ b) && decide (a ≤ 1099511627776)
theorem stampB_eq (a b : Int) : record_stamp.f a b = some (stampB a b) := by
  unfold record_stamp.f stampB
  by_cases h : a ≥ b
  · rw [if_pos h, decide_eq_true h, Bool.true_and]
  · rw [if_neg h, decide_eq_false h, Bool.false_and]
def record_CheckMaster.f (a0_0 : Int) (a0_1 : Int) (a0_2 : Int) (a0_3 : Int) (a0_4 : Int) (a0_5 : Int) (a0_6 : Int) (a0_7 : Int) : Option Int := some (if (stampB a0_0 1 && ((a0_1 == 0 || a0_1 == 1) && (decide (a0_2 ≥ 1) && (decide (a0_2 ≤ 4096) && (stampB a0_3 0 && (stampB a0_4 0 && (decide (a0_5 ≥ 0) && (decide (a0_5 < 512) && (stampB a0_6 0 && stampB a0_7 0))))))))) = true then 0 else 32)
set_option maxHeartbeats 8000000 in
set_option maxRecDepth 100000 in
theorem record_CheckMaster.calls (a0_0 : Int) (a0_1 : Int) (a0_2 : Int) (a0_3 : Int) (a0_4 : Int) (a0_5 : Int) (a0_6 : Int) (a0_7 : Int) (r : Int) (w : World) (h : record_CheckMaster.f a0_0 a0_1 a0_2 a0_3 a0_4 a0_5 a0_6 a0_7 = some r) :
    Calls Try.prog 22 #[.agg #[.int .i64 a0_0, .int .i64 a0_1, .int .i64 a0_2, .int .i64 a0_3, .int .i64 a0_4, .int .i64 a0_5, .int .i64 a0_6, .int .i64 a0_7]] w fun e w' => e = .returned (.int .i64 r) ∧ Below w.heap.size w w' := by
  unfold record_CheckMaster.f at h
  obtain rfl := Option.some.inj h
  clear h
  have hfl : ∀ b, record_field.f b = some (if b = true then 0 else 32) := fun b => by unfold record_field.f; split <;> rfl
  have h0_ := stampB_eq a0_0 1
  have h3_ := stampB_eq a0_3 0
  have h4_ := stampB_eq a0_4 0
  have h6_ := stampB_eq a0_6 0
  have h7_ := stampB_eq a0_7 0
  generalize stampB a0_0 1 = s0 at h0_ ⊢
  generalize stampB a0_3 0 = s3 at h3_ ⊢
  generalize stampB a0_4 0 = s4 at h4_ ⊢
  generalize stampB a0_6 0 = s6 at h6_ ⊢
  generalize stampB a0_7 0 = s7 at h7_ ⊢
  cases s0 with
  | false =>
    go_enter Try.func22, Try.ntmps22
    go_wp2_with (first | (go_at_call 48; refine (record_stamp.calls _ _ _ _ (by with_reducible assumption)).mono ?_; rintro e w' ⟨rfl, ⟨nd, rfl⟩⟩) | (go_at_call 47; refine (record_field.calls _ _ _ (hfl _)).mono ?_; rintro e w' ⟨rfl, ⟨nd, rfl⟩⟩))
    go_ret
    exact ⟨by simp [*], by repeat (first | (with_reducible first | exact Below.refl _ _ | apply below_alloc | apply pw_below_drewN | apply below_drew1) | exact Below.refl _ _)⟩
  | true =>
    cases h1 : (a0_1 == 0) with
    | false =>
      cases hc : (a0_1 == 1) with
      | false =>
        go_enter Try.func22, Try.ntmps22
        go_wp2_with (first | (go_at_call 48; refine (record_stamp.calls _ _ _ _ (by with_reducible assumption)).mono ?_; rintro e w' ⟨rfl, ⟨nd, rfl⟩⟩) | (go_at_call 47; refine (record_field.calls _ _ _ (hfl _)).mono ?_; rintro e w' ⟨rfl, ⟨nd, rfl⟩⟩))
        go_ret
        exact ⟨by simp [*], by repeat (first | (with_reducible first | exact Below.refl _ _ | apply below_alloc | apply pw_below_drewN | apply below_drew1) | exact Below.refl _ _)⟩
      | true =>
        cases h2 : decide (a0_2 ≥ 1) with
        | false =>
          go_enter Try.func22, Try.ntmps22
          go_wp2_with (first | (go_at_call 48; refine (record_stamp.calls _ _ _ _ (by with_reducible assumption)).mono ?_; rintro e w' ⟨rfl, ⟨nd, rfl⟩⟩) | (go_at_call 47; refine (record_field.calls _ _ _ (hfl _)).mono ?_; rintro e w' ⟨rfl, ⟨nd, rfl⟩⟩))
          go_ret
          exact ⟨by simp [*], by repeat (first | (with_reducible first | exact Below.refl _ _ | apply below_alloc | apply pw_below_drewN | apply below_drew1) | exact Below.refl _ _)⟩
        | true =>
          cases h3 : decide (a0_2 ≤ 4096) with
          | false =>
            go_enter Try.func22, Try.ntmps22
            go_wp2_with (first | (go_at_call 48; refine (record_stamp.calls _ _ _ _ (by with_reducible assumption)).mono ?_; rintro e w' ⟨rfl, ⟨nd, rfl⟩⟩) | (go_at_call 47; refine (record_field.calls _ _ _ (hfl _)).mono ?_; rintro e w' ⟨rfl, ⟨nd, rfl⟩⟩))
            go_ret
            exact ⟨by simp [*], by repeat (first | (with_reducible first | exact Below.refl _ _ | apply below_alloc | apply pw_below_drewN | apply below_drew1) | exact Below.refl _ _)⟩
          | true =>
            cases s3 with
            | false =>
              go_enter Try.func22, Try.ntmps22
              go_wp2_with (first | (go_at_call 48; refine (record_stamp.calls _ _ _ _ (by with_reducible assumption)).mono ?_; rintro e w' ⟨rfl, ⟨nd, rfl⟩⟩) | (go_at_call 47; refine (record_field.calls _ _ _ (hfl _)).mono ?_; rintro e w' ⟨rfl, ⟨nd, rfl⟩⟩))
              go_ret
              exact ⟨by simp [*], by repeat (first | (with_reducible first | exact Below.refl _ _ | apply below_alloc | apply pw_below_drewN | apply below_drew1) | exact Below.refl _ _)⟩
            | true =>
              cases s4 with
              | false =>
                go_enter Try.func22, Try.ntmps22
                go_wp2_with (first | (go_at_call 48; refine (record_stamp.calls _ _ _ _ (by with_reducible assumption)).mono ?_; rintro e w' ⟨rfl, ⟨nd, rfl⟩⟩) | (go_at_call 47; refine (record_field.calls _ _ _ (hfl _)).mono ?_; rintro e w' ⟨rfl, ⟨nd, rfl⟩⟩))
                go_ret
                exact ⟨by simp [*], by repeat (first | (with_reducible first | exact Below.refl _ _ | apply below_alloc | apply pw_below_drewN | apply below_drew1) | exact Below.refl _ _)⟩
              | true =>
                cases h6 : decide (a0_5 ≥ 0) with
                | false =>
                  go_enter Try.func22, Try.ntmps22
                  go_wp2_with (first | (go_at_call 48; refine (record_stamp.calls _ _ _ _ (by with_reducible assumption)).mono ?_; rintro e w' ⟨rfl, ⟨nd, rfl⟩⟩) | (go_at_call 47; refine (record_field.calls _ _ _ (hfl _)).mono ?_; rintro e w' ⟨rfl, ⟨nd, rfl⟩⟩))
                  go_ret
                  exact ⟨by simp [*], by repeat (first | (with_reducible first | exact Below.refl _ _ | apply below_alloc | apply pw_below_drewN | apply below_drew1) | exact Below.refl _ _)⟩
                | true =>
                  cases h7 : decide (a0_5 < 512) with
                  | false =>
                    go_enter Try.func22, Try.ntmps22
                    go_wp2_with (first | (go_at_call 48; refine (record_stamp.calls _ _ _ _ (by with_reducible assumption)).mono ?_; rintro e w' ⟨rfl, ⟨nd, rfl⟩⟩) | (go_at_call 47; refine (record_field.calls _ _ _ (hfl _)).mono ?_; rintro e w' ⟨rfl, ⟨nd, rfl⟩⟩))
                    go_ret
                    exact ⟨by simp [*], by repeat (first | (with_reducible first | exact Below.refl _ _ | apply below_alloc | apply pw_below_drewN | apply below_drew1) | exact Below.refl _ _)⟩
                  | true =>
                    cases s6 with
                    | false =>
                      go_enter Try.func22, Try.ntmps22
                      go_wp2_with (first | (go_at_call 48; refine (record_stamp.calls _ _ _ _ (by with_reducible assumption)).mono ?_; rintro e w' ⟨rfl, ⟨nd, rfl⟩⟩) | (go_at_call 47; refine (record_field.calls _ _ _ (hfl _)).mono ?_; rintro e w' ⟨rfl, ⟨nd, rfl⟩⟩))
                      go_ret
                      exact ⟨by simp [*], by repeat (first | (with_reducible first | exact Below.refl _ _ | apply below_alloc | apply pw_below_drewN | apply below_drew1) | exact Below.refl _ _)⟩
                    | true =>
                      cases s7 with
                      | false =>
                        go_enter Try.func22, Try.ntmps22
                        go_wp2_with (first | (go_at_call 48; refine (record_stamp.calls _ _ _ _ (by with_reducible assumption)).mono ?_; rintro e w' ⟨rfl, ⟨nd, rfl⟩⟩) | (go_at_call 47; refine (record_field.calls _ _ _ (hfl _)).mono ?_; rintro e w' ⟨rfl, ⟨nd, rfl⟩⟩))
                        go_ret
                        exact ⟨by simp [*], by repeat (first | (with_reducible first | exact Below.refl _ _ | apply below_alloc | apply pw_below_drewN | apply below_drew1) | exact Below.refl _ _)⟩
                      | true =>
                        go_enter Try.func22, Try.ntmps22
                        go_wp2_with (first | (go_at_call 48; refine (record_stamp.calls _ _ _ _ (by with_reducible assumption)).mono ?_; rintro e w' ⟨rfl, ⟨nd, rfl⟩⟩) | (go_at_call 47; refine (record_field.calls _ _ _ (hfl _)).mono ?_; rintro e w' ⟨rfl, ⟨nd, rfl⟩⟩))
                        go_ret
                        exact ⟨by simp [*], by repeat (first | (with_reducible first | exact Below.refl _ _ | apply below_alloc | apply pw_below_drewN | apply below_drew1) | exact Below.refl _ _)⟩
    | true =>
      cases h2 : decide (a0_2 ≥ 1) with
      | false =>
        go_enter Try.func22, Try.ntmps22
        go_wp2_with (first | (go_at_call 48; refine (record_stamp.calls _ _ _ _ (by with_reducible assumption)).mono ?_; rintro e w' ⟨rfl, ⟨nd, rfl⟩⟩) | (go_at_call 47; refine (record_field.calls _ _ _ (hfl _)).mono ?_; rintro e w' ⟨rfl, ⟨nd, rfl⟩⟩))
        go_ret
        exact ⟨by simp [*], by repeat (first | (with_reducible first | exact Below.refl _ _ | apply below_alloc | apply pw_below_drewN | apply below_drew1) | exact Below.refl _ _)⟩
      | true =>
        cases h3 : decide (a0_2 ≤ 4096) with
        | false =>
          go_enter Try.func22, Try.ntmps22
          go_wp2_with (first | (go_at_call 48; refine (record_stamp.calls _ _ _ _ (by with_reducible assumption)).mono ?_; rintro e w' ⟨rfl, ⟨nd, rfl⟩⟩) | (go_at_call 47; refine (record_field.calls _ _ _ (hfl _)).mono ?_; rintro e w' ⟨rfl, ⟨nd, rfl⟩⟩))
          go_ret
          exact ⟨by simp [*], by repeat (first | (with_reducible first | exact Below.refl _ _ | apply below_alloc | apply pw_below_drewN | apply below_drew1) | exact Below.refl _ _)⟩
        | true =>
          cases s3 with
          | false =>
            go_enter Try.func22, Try.ntmps22
            go_wp2_with (first | (go_at_call 48; refine (record_stamp.calls _ _ _ _ (by with_reducible assumption)).mono ?_; rintro e w' ⟨rfl, ⟨nd, rfl⟩⟩) | (go_at_call 47; refine (record_field.calls _ _ _ (hfl _)).mono ?_; rintro e w' ⟨rfl, ⟨nd, rfl⟩⟩))
            go_ret
            exact ⟨by simp [*], by repeat (first | (with_reducible first | exact Below.refl _ _ | apply below_alloc | apply pw_below_drewN | apply below_drew1) | exact Below.refl _ _)⟩
          | true =>
            cases s4 with
            | false =>
              go_enter Try.func22, Try.ntmps22
              go_wp2_with (first | (go_at_call 48; refine (record_stamp.calls _ _ _ _ (by with_reducible assumption)).mono ?_; rintro e w' ⟨rfl, ⟨nd, rfl⟩⟩) | (go_at_call 47; refine (record_field.calls _ _ _ (hfl _)).mono ?_; rintro e w' ⟨rfl, ⟨nd, rfl⟩⟩))
              go_ret
              exact ⟨by simp [*], by repeat (first | (with_reducible first | exact Below.refl _ _ | apply below_alloc | apply pw_below_drewN | apply below_drew1) | exact Below.refl _ _)⟩
            | true =>
              cases h6 : decide (a0_5 ≥ 0) with
              | false =>
                go_enter Try.func22, Try.ntmps22
                go_wp2_with (first | (go_at_call 48; refine (record_stamp.calls _ _ _ _ (by with_reducible assumption)).mono ?_; rintro e w' ⟨rfl, ⟨nd, rfl⟩⟩) | (go_at_call 47; refine (record_field.calls _ _ _ (hfl _)).mono ?_; rintro e w' ⟨rfl, ⟨nd, rfl⟩⟩))
                go_ret
                exact ⟨by simp [*], by repeat (first | (with_reducible first | exact Below.refl _ _ | apply below_alloc | apply pw_below_drewN | apply below_drew1) | exact Below.refl _ _)⟩
              | true =>
                cases h7 : decide (a0_5 < 512) with
                | false =>
                  go_enter Try.func22, Try.ntmps22
                  go_wp2_with (first | (go_at_call 48; refine (record_stamp.calls _ _ _ _ (by with_reducible assumption)).mono ?_; rintro e w' ⟨rfl, ⟨nd, rfl⟩⟩) | (go_at_call 47; refine (record_field.calls _ _ _ (hfl _)).mono ?_; rintro e w' ⟨rfl, ⟨nd, rfl⟩⟩))
                  go_ret
                  exact ⟨by simp [*], by repeat (first | (with_reducible first | exact Below.refl _ _ | apply below_alloc | apply pw_below_drewN | apply below_drew1) | exact Below.refl _ _)⟩
                | true =>
                  cases s6 with
                  | false =>
                    go_enter Try.func22, Try.ntmps22
                    go_wp2_with (first | (go_at_call 48; refine (record_stamp.calls _ _ _ _ (by with_reducible assumption)).mono ?_; rintro e w' ⟨rfl, ⟨nd, rfl⟩⟩) | (go_at_call 47; refine (record_field.calls _ _ _ (hfl _)).mono ?_; rintro e w' ⟨rfl, ⟨nd, rfl⟩⟩))
                    go_ret
                    exact ⟨by simp [*], by repeat (first | (with_reducible first | exact Below.refl _ _ | apply below_alloc | apply pw_below_drewN | apply below_drew1) | exact Below.refl _ _)⟩
                  | true =>
                    cases s7 with
                    | false =>
                      go_enter Try.func22, Try.ntmps22
                      go_wp2_with (first | (go_at_call 48; refine (record_stamp.calls _ _ _ _ (by with_reducible assumption)).mono ?_; rintro e w' ⟨rfl, ⟨nd, rfl⟩⟩) | (go_at_call 47; refine (record_field.calls _ _ _ (hfl _)).mono ?_; rintro e w' ⟨rfl, ⟨nd, rfl⟩⟩))
                      go_ret
                      exact ⟨by simp [*], by repeat (first | (with_reducible first | exact Below.refl _ _ | apply below_alloc | apply pw_below_drewN | apply below_drew1) | exact Below.refl _ _)⟩
                    | true =>
                      go_enter Try.func22, Try.ntmps22
                      go_wp2_with (first | (go_at_call 48; refine (record_stamp.calls _ _ _ _ (by with_reducible assumption)).mono ?_; rintro e w' ⟨rfl, ⟨nd, rfl⟩⟩) | (go_at_call 47; refine (record_field.calls _ _ _ (hfl _)).mono ?_; rintro e w' ⟨rfl, ⟨nd, rfl⟩⟩))
                      go_ret
                      exact ⟨by simp [*], by repeat (first | (with_reducible first | exact Below.refl _ _ | apply below_alloc | apply pw_below_drewN | apply below_drew1) | exact Below.refl _ _)⟩

end Go.Proofs.Ytkcdmoghnoodmaa.B

-- Written by a program of this session (wip/print2) out of Lean's print of the translation. Not trusted: Lean checks it.
import Derived.Test.YtphdinelioendaaBx0
import Derived.Test.YtphdinelioendaaBx1
import Derived.Test.YtphdinelioendaaBx2
import Derived.Test.YtphdinelioendaaBx5
import Derived.Test.YtphdinelioendaaBx17
namespace Go.Proofs.Ytphdinelioendaa.B
open Go.RowKit Go.Proofs.YtphdinelioendaaW.PrintWords Go.Proofs.YtphdinelioendaaW.PrintLast Go.Proofs.YtphdinelioendaaW.PrintMore Go.Proofs.YtphdinelioendaaW.Mine
attribute [local go_sem] max2_int min2_int max_two min_two max_three min_three max_four min_four str_gtr str_leq str_geq str_max str_min   -- for this text's walks alone
set_option linter.unusedVariables false
set_option linter.unusedSimpArgs false

/-! ### cressetlaw01_CodecTorn: function 13 -/
mutual
def cressetlaw01_CodecTorn.j0 : Nat → List Int → List Int → Int → List Int → Bool → Option (Bool)
  | 0, _, _, _, _, _ => none
  | k + 1, x0, x1, x2, x9, x49 => if x49 = true then (some false) else ((bytes_Clone.f x9).bind fun t473 => (if t473.length + x1.length < 140737488355328 then ((codec_Unframe.f k (t473 ++ x1)).bind fun bt479 => (if bt479.2.2 = 0 then (if bt479.2.1 = (x9.length : Int) then ((bytes_Equal.f bt479.1 x0).bind fun t484 => (cressetlaw01_CodecTorn.j1 k x0 x2 x9 (!t484))) else (cressetlaw01_CodecTorn.j1 k x0 x2 x9 true)) else (cressetlaw01_CodecTorn.j1 k x0 x2 x9 true))) else (none)))
def cressetlaw01_CodecTorn.j1 : Nat → List Int → Int → List Int → Bool → Option (Bool)
  | 0, _, _, _, _ => none
  | k + 1, x0, x2, x9, x72 => if x72 = true then (some false) else (if (x9.length : Int) = 0 then (none) else (if 0 ≤ (Int.tmod (wrap64 (x2)) (x9.length : Int)) then (if (Int.tmod (wrap64 (x2)) (x9.length : Int)) ≤ (x9.length : Int) then ((codec_Unframe.f k (x9.take ((Int.tmod (wrap64 (x2)) (x9.length : Int)) : Int).toNat)).bind fun bt490 => (if bt490.2.2 = 10 then (if (wrap64 ((x0.length : Int) + 4)) = 0 then (none) else (if 0 ≤ (wrap64 ((wrap64 ((wrap64 ((x9.length : Int) - (x0.length : Int))) - 4)) + (Int.tmod (wrap64 (x2)) (wrap64 ((x0.length : Int) + 4))))) then (if (wrap64 ((wrap64 ((wrap64 ((x9.length : Int) - (x0.length : Int))) - 4)) + (Int.tmod (wrap64 (x2)) (wrap64 ((x0.length : Int) + 4))))) < (x9.length : Int) then (if 0 ≤ (Int.tmod x2 8) then ((codec_Unframe.f k (x9.set ((wrap64 ((wrap64 ((wrap64 ((x9.length : Int) - (x0.length : Int))) - 4)) + (Int.tmod (wrap64 (x2)) (wrap64 ((x0.length : Int) + 4))))) : Int).toNat (Go.bits .xor .u8 (rd x9 (wrap64 ((wrap64 ((wrap64 ((x9.length : Int) - (x0.length : Int))) - 4)) + (Int.tmod (wrap64 (x2)) (wrap64 ((x0.length : Int) + 4)))))) (shl .u8 1 (Int.tmod x2 8))))).bind fun bt497 => (some (bt497.2.2 == 12))) else (none)) else (none)) else (none))) else (some false))) else (none)) else (none)))
end
def cressetlaw01_CodecTorn.f (k : Nat) (l0 : List Int) (l1 : List Int) (a2 : Int) : Option (Bool) := if (l0.length : Int) > 1048576 then ((codec_Frame.f k l0).bind fun bt463 => ((cressetlaw01_live.f k).bind fun t467 => (if t467 = true then (some (bt463.2 == 3)) else (some false)))) else ((codec_Frame.f k l0).bind fun bt468 => (if bt468.2 = 0 then ((cressetlaw01_live.f k).bind fun t472 => (if t472 = true then (cressetlaw01_CodecTorn.j0 k l0 l1 a2 bt468.1 (decide ((bt468.1.length : Int) < (wrap64 ((l0.length : Int) + 5))))) else (cressetlaw01_CodecTorn.j0 k l0 l1 a2 bt468.1 true))) else (cressetlaw01_CodecTorn.j0 k l0 l1 a2 bt468.1 true)))
theorem cressetlaw01_CodecTorn.mono_l : ∀ k, (∀ y0 y1 y2 y3 y4, LeO (cressetlaw01_CodecTorn.j0 k y0 y1 y2 y3 y4) (cressetlaw01_CodecTorn.j0 (k + 1) y0 y1 y2 y3 y4)) ∧ (∀ y0 y1 y2 y3, LeO (cressetlaw01_CodecTorn.j1 k y0 y1 y2 y3) (cressetlaw01_CodecTorn.j1 (k + 1) y0 y1 y2 y3))
  | 0 => ⟨fun _ _ _ _ _ r h => by simp [cressetlaw01_CodecTorn.j0] at h, fun _ _ _ _ r h => by simp [cressetlaw01_CodecTorn.j1] at h⟩
  | k + 1 => by
    obtain ⟨ih0, ih1⟩ := cressetlaw01_CodecTorn.mono_l k
    refine ⟨?_, ?_⟩
    · intro y0 y1 y2 y3 y4
      unfold cressetlaw01_CodecTorn.j0
      repeat' first
      | (with_reducible exact ih0 _ _ _ _ _)
      | (with_reducible exact ih1 _ _ _ _)
      | (with_reducible exact codec_Frame.mono _ _)
      | (with_reducible exact codec_Unframe.mono _ _)
      | (with_reducible exact cressetlaw01_live.mono _)
      | (with_reducible exact LeO.refl _)
      | (with_reducible exact LeO.none _)
      | (with_reducible refine LeO.ite ?_ ?_)
      | (with_reducible refine LeO.bind ?_ (fun _ => ?_))
      | exact ih0 _ _ _ _ _
      | exact ih1 _ _ _ _
      | exact codec_Frame.mono _ _
      | exact codec_Unframe.mono _ _
      | exact cressetlaw01_live.mono _
      | exact LeO.none _
      | refine LeO.ite ?_ ?_
      | refine LeO.bind ?_ (fun _ => ?_)
    · intro y0 y1 y2 y3
      unfold cressetlaw01_CodecTorn.j1
      repeat' first
      | (with_reducible exact ih0 _ _ _ _ _)
      | (with_reducible exact ih1 _ _ _ _)
      | (with_reducible exact codec_Frame.mono _ _)
      | (with_reducible exact codec_Unframe.mono _ _)
      | (with_reducible exact cressetlaw01_live.mono _)
      | (with_reducible exact LeO.refl _)
      | (with_reducible exact LeO.none _)
      | (with_reducible refine LeO.ite ?_ ?_)
      | (with_reducible refine LeO.bind ?_ (fun _ => ?_))
      | exact ih0 _ _ _ _ _
      | exact ih1 _ _ _ _
      | exact codec_Frame.mono _ _
      | exact codec_Unframe.mono _ _
      | exact cressetlaw01_live.mono _
      | exact LeO.none _
      | refine LeO.ite ?_ ?_
      | refine LeO.bind ?_ (fun _ => ?_)
theorem cressetlaw01_CodecTorn.mono : ∀ a0 a1 a2 k, LeO (cressetlaw01_CodecTorn.f k a0 a1 a2) (cressetlaw01_CodecTorn.f (k + 1) a0 a1 a2) := by
  intro a0 a1 a2 k
  obtain ⟨ih0, ih1⟩ := cressetlaw01_CodecTorn.mono_l k
  unfold cressetlaw01_CodecTorn.f
  repeat' first
      | (with_reducible exact ih0 _ _ _ _ _)
      | (with_reducible exact ih1 _ _ _ _)
      | (with_reducible exact codec_Frame.mono _ _)
      | (with_reducible exact codec_Unframe.mono _ _)
      | (with_reducible exact cressetlaw01_live.mono _)
      | (with_reducible exact LeO.refl _)
      | (with_reducible exact LeO.none _)
      | (with_reducible refine LeO.ite ?_ ?_)
      | (with_reducible refine LeO.bind ?_ (fun _ => ?_))
      | exact ih0 _ _ _ _ _
      | exact ih1 _ _ _ _
      | exact codec_Frame.mono _ _
      | exact codec_Unframe.mono _ _
      | exact cressetlaw01_live.mono _
      | exact LeO.none _
      | refine LeO.ite ?_ ?_
      | refine LeO.bind ?_ (fun _ => ?_)
set_option maxHeartbeats 8000000 in
set_option maxRecDepth 100000 in
theorem cressetlaw01_CodecTorn.calls (k : Nat) (A0 : Option Addr) (c0 : Nat) (l0 : List Int) (A1 : Option Addr) (c1 : Nat) (l1 : List Int) (a2 : Int) (w : World) (hr0 : Kd.C (Kd.int .u8) w A0 l0.length l0) (hc0 : l0.length ≤ c0) (hr1 : Kd.C (Kd.int .u8) w A1 l1.length l1) (hc1 : l1.length ≤ c1) (h : cressetlaw01_CodecTorn.f k l0 l1 a2 = some true) :
    Calls Try.prog 13 #[.slice A0 l0.length c0, .slice A1 l1.length c1, .int .u16 a2] w fun e w' => e = .returned (.bool true) ∧ Below w.heap.size w w' := by
  have HR0 := Aside0.mk hr0
  have HC0 := Aside0.mk hc0
  clear hr0 hc0
  have HR1 := Aside0.mk hr1
  have HC1 := Aside0.mk hc1
  clear hr1 hc1
  have HB := Aside0.mk (Below.refl w.heap.size w)
  have H : (if (l0.length : Int) > 1048576 then ((codec_Frame.f k l0).bind fun bt463 => ((cressetlaw01_live.f k).bind fun t467 => (if t467 = true then (some (bt463.2 == 3)) else (some false)))) else ((codec_Frame.f k l0).bind fun bt468 => (if bt468.2 = 0 then ((cressetlaw01_live.f k).bind fun t472 => (if t472 = true then (cressetlaw01_CodecTorn.j0 k l0 l1 a2 bt468.1 (decide ((bt468.1.length : Int) < (wrap64 ((l0.length : Int) + 5))))) else (cressetlaw01_CodecTorn.j0 k l0 l1 a2 bt468.1 true))) else (cressetlaw01_CodecTorn.j0 k l0 l1 a2 bt468.1 true)))) = some true := h
  clear h
  by_cases c4 : (l0.length : Int) > 1048576
  · rw [if_pos c4] at H
    have c4b0 : decide (1048576 < (l0.length : Int)) = true := decide_eq_true c4
    have c4b1 : decide (1048576 < l0.length) = true := decide_eq_true (by omega)
    clear c4
    replace H := Option.bind_eq_some_iff.mp H
    obtain ⟨⟨t463, t466⟩, A50, H⟩ := H
    replace H : ((cressetlaw01_live.f k).bind fun t467 => (if t467 = true then (some (t466 == 3)) else (some false))) = some true := H
    have A5 := Aside0.mk A50
    clear A50
    replace H := Option.bind_eq_some_iff.mp H
    obtain ⟨t467, A60, H⟩ := H
    replace H : (if t467 = true then (some (t466 == 3)) else (some false)) = some true := H
    have A6 := Aside0.mk A60
    clear A60
    by_cases c7 : t467 = true
    · subst c7
      have H1 : (some (t466 == 3)) = some true := by rw [if_pos rfl] at H; first | done | exact H
      clear H
      have H := H1
      clear H1
      have HRT := Aside0.mk (Option.some.inj H)
      clear H
      go_enter Try.func13, Try.ntmps13
      go_wp2_with (first | ((with_reducible refine gate_callee (f := 35) rfl ?_); refine goesL_ (some 23) rfl rfl Try.func35 (by kernel_rfl) rfl #[.slice A0 l0.length c0] rfl (by (try simp only [List.map_toArray, List.map_cons, List.map_nil]); first | done | rfl | (simp only [List.length_drop, List.length_take]; rfl)) ?_; (with_reducible refine (codec_Frame.calls k (fun k_ => k_ < w.heap.size) _ _ l0 t463 t466 _ ?side1 A5.out).mono ?_); (case side1 => exact Kd.V_mk HC0.out (Kd.F_below (Kd.C_F (Kd.heap_int .u8) HR0.out) (by repeat (first | (with_reducible first | exact HB.out | apply below_alloc | apply pw_below_drewN | apply below_drew1) | exact HB.out)))); rintro e w8 ⟨v464, rfl, ho0, hb⟩; refine ⟨_, rfl, ?_⟩; have n0_ := Aside0.mk (Kd.R_lower (Kd.R_mono (ok' := fun k_ => True) ho0 (fun _ hk_ => trivial)) (below_size (by repeat (first | (with_reducible first | exact HB.out | apply below_alloc | apply pw_below_drewN | apply below_drew1) | exact HB.out)))); have n1_ := Aside0.mk (below_step (by repeat (first | (with_reducible first | exact HB.out | apply below_alloc | apply pw_below_drewN | apply below_drew1) | exact HB.out)) hb); clear HB; have HO465 := n0_; have HB := n1_; clear n0_ n1_; (try clear hb); (try clear hb2); (try clear hk); (try clear hi); (try clear ho0)) | ((with_reducible refine gate_callee (f := 15) rfl ?_); refine goesL_ (some 26) rfl rfl Try.func15 (by kernel_rfl) rfl #[] rfl (by (try simp only [List.map_toArray, List.map_cons, List.map_nil]); first | done | rfl | (simp only [List.length_drop, List.length_take]; rfl)) ?_; (with_reducible refine (cressetlaw01_live.calls k  true _ A6.out).mono ?_); rintro e w9 ⟨rfl, hb⟩; refine ⟨_, rfl, ?_⟩; have n0_ := Aside0.mk (Kd.R_below (by (with_reducible repeat (first | apply Kd.R_alloc | apply Kd.R_drewN | apply Kd.R_drew)); exact HO465.out) hb); have n1_ := Aside0.mk (below_step (by repeat (first | (with_reducible first | exact HB.out | apply below_alloc | apply pw_below_drewN | apply below_drew1) | exact HB.out)) hb); clear HO465; clear HB; have HO465 := n0_; have HB := n1_; clear n0_ n1_; (try clear hb); (try clear hb2); (try clear hk); (try clear hi)))
      go_ret
      exact ⟨by first | exact congrArg (fun b_ => Ending.returned (.bool b_)) HRT.out | rfl | (simp [errW_none, errW_some] <;> rfl) | (simp [*, errW_none, errW_some] <;> rfl), by repeat (first | (with_reducible first | exact HB.out | apply below_alloc | apply pw_below_drewN | apply below_drew1) | exact HB.out)⟩
    · replace c7 := Bool.eq_false_iff.mpr c7
      subst c7
      have H1 : (some false) = some true := by rw [if_neg (show ¬ (false = true) by decide)] at H; first | done | exact H
      clear H
      have H := H1
      clear H1
      exact absurd H (by simp)
  · rw [if_neg c4] at H
    have c4b0 : decide (1048576 < (l0.length : Int)) = false := decide_eq_false c4
    have c4b1 : decide (1048576 < l0.length) = false := decide_eq_false (by omega)
    clear c4
    replace H := Option.bind_eq_some_iff.mp H
    obtain ⟨⟨t468, t471⟩, A100, H⟩ := H
    replace H : (if t471 = 0 then ((cressetlaw01_live.f k).bind fun t472 => (if t472 = true then (cressetlaw01_CodecTorn.j0 k l0 l1 a2 t468 (decide ((t468.length : Int) < (wrap64 ((l0.length : Int) + 5))))) else (cressetlaw01_CodecTorn.j0 k l0 l1 a2 t468 true))) else (cressetlaw01_CodecTorn.j0 k l0 l1 a2 t468 true)) = some true := H
    have A10 := Aside0.mk A100
    clear A100
    have HC11 := Aside0.mk H
    clear H
    go_enter Try.func13, Try.ntmps13
    go_upto_region 5 with (first | ((with_reducible refine gate_callee (f := 35) rfl ?_); refine goesL_ (some 33) rfl rfl Try.func35 (by kernel_rfl) rfl #[.slice A0 l0.length c0] rfl (by (try simp only [List.map_toArray, List.map_cons, List.map_nil]); first | done | rfl | (simp only [List.length_drop, List.length_take]; rfl)) ?_; (with_reducible refine (codec_Frame.calls k (fun k_ => k_ < w.heap.size) _ _ l0 t468 t471 _ ?side1 A10.out).mono ?_); (case side1 => exact Kd.V_mk HC0.out (Kd.F_below (Kd.C_F (Kd.heap_int .u8) HR0.out) (by repeat (first | (with_reducible first | exact HB.out | apply below_alloc | apply pw_below_drewN | apply below_drew1) | exact HB.out)))); rintro e w12 ⟨v469, rfl, ho0, hb⟩; refine ⟨_, rfl, ?_⟩; have n0_ := Aside0.mk (Kd.R_lower (Kd.R_mono (ok' := fun k_ => True) ho0 (fun _ hk_ => trivial)) (below_size (by repeat (first | (with_reducible first | exact HB.out | apply below_alloc | apply pw_below_drewN | apply below_drew1) | exact HB.out)))); have n1_ := Aside0.mk (below_step (by repeat (first | (with_reducible first | exact HB.out | apply below_alloc | apply pw_below_drewN | apply below_drew1) | exact HB.out)) hb); clear HB; have HO470 := n0_; have HB := n1_; clear n0_ n1_; (try clear hb); (try clear hb2); (try clear hk); (try clear hi); (try clear ho0)))
    (try simp only [Act.put, List.setIfInBounds_toArray, List.set_cons_zero, List.set_cons_succ])
    go_cut [49] (fun v49 wc => ∃ (kq : Nat) (x49_10 : Bool), v49 = .bool x49_10 ∧ Aside0 (cressetlaw01_CodecTorn.j0 kq l0 l1 a2 t468 x49_10 = some true) ∧ Aside0 (kq ≤ k) ∧ Aside0 (Kd.R (Kd.int .u8) 5 wc w.heap.size (fun _ => True) v469 t468) ∧ Aside0 (Below w.heap.size w wc))
    case first =>
      have H := HC11.out
      clear HC11
      by_cases c13 : t471 = 0
      · rw [if_pos c13] at H
        have c13b0 : (t471 == 0) = true := beq_iff_eq.mpr c13
        have c13b1 : (t471 != 0) = false := bne_eq_false_iff_eq.mpr c13
        clear c13
        (first | rw [c13b0] | (simp only [i64_w, i32_w]; rw [c13b0]) | skip)
        replace H := Option.bind_eq_some_iff.mp H
        obtain ⟨t472, A140, H⟩ := H
        replace H : (if t472 = true then (cressetlaw01_CodecTorn.j0 k l0 l1 a2 t468 (decide ((t468.length : Int) < (wrap64 ((l0.length : Int) + 5))))) else (cressetlaw01_CodecTorn.j0 k l0 l1 a2 t468 true)) = some true := H
        have A14 := Aside0.mk A140
        clear A140
        by_cases c15 : t472 = true
        · subst c15
          have H1 : (cressetlaw01_CodecTorn.j0 k l0 l1 a2 t468 (decide ((t468.length : Int) < (wrap64 ((l0.length : Int) + 5))))) = some true := by rw [if_pos rfl] at H; first | done | exact H
          clear H
          have H := H1
          clear H1
          have H' := Aside0.mk H
          clear H
          go_wp2_with (first | (go_at_call 15; (with_reducible refine (cressetlaw01_live.calls k  true _ A14.out).mono ?_); rintro e w16 ⟨rfl, hb⟩; have n0_ := Aside0.mk (Kd.R_below (by (with_reducible repeat (first | apply Kd.R_alloc | apply Kd.R_drewN | apply Kd.R_drew)); exact HO470.out) hb); have n1_ := Aside0.mk (below_step (by repeat (first | (with_reducible first | exact HB.out | apply below_alloc | apply pw_below_drewN | apply below_drew1) | exact HB.out)) hb); clear HO470; clear HB; have HO470 := n0_; have HB := n1_; clear n0_ n1_; (try clear hb); (try clear hb2); (try clear hk); (try clear hi); obtain ⟨Ao17, co17, eo17⟩ := Kd.R_slice HO470.out; subst eo17))
          go_meet
          case rel => exact ⟨_, (decide ((t468.length : Int) < (wrap64 ((l0.length : Int) + 5)))), (by first | rfl | (simp; done) | (simp [*]; done)), H', ⟨by first | omega | exact Nat.le_refl _⟩, ⟨by (with_reducible repeat (first | apply Kd.R_alloc | apply Kd.R_drewN | apply Kd.R_drew)); exact HO470.out⟩, ⟨by repeat (first | (with_reducible first | exact HB.out | apply below_alloc | apply pw_below_drewN | apply below_drew1) | exact HB.out)⟩⟩
        · replace c15 := Bool.eq_false_iff.mpr c15
          subst c15
          have H1 : (cressetlaw01_CodecTorn.j0 k l0 l1 a2 t468 true) = some true := by rw [if_neg (show ¬ (false = true) by decide)] at H; first | done | exact H
          clear H
          have H := H1
          clear H1
          have H' := Aside0.mk H
          clear H
          go_wp2_with (first | (go_at_call 15; (with_reducible refine (cressetlaw01_live.calls k  false _ A14.out).mono ?_); rintro e w18 ⟨rfl, hb⟩; have n0_ := Aside0.mk (Kd.R_below (by (with_reducible repeat (first | apply Kd.R_alloc | apply Kd.R_drewN | apply Kd.R_drew)); exact HO470.out) hb); have n1_ := Aside0.mk (below_step (by repeat (first | (with_reducible first | exact HB.out | apply below_alloc | apply pw_below_drewN | apply below_drew1) | exact HB.out)) hb); clear HO470; clear HB; have HO470 := n0_; have HB := n1_; clear n0_ n1_; (try clear hb); (try clear hb2); (try clear hk); (try clear hi)))
          go_meet
          case rel => exact ⟨_, (true), (by first | rfl | (simp; done) | (simp [*]; done)), H', ⟨by first | omega | exact Nat.le_refl _⟩, ⟨by (with_reducible repeat (first | apply Kd.R_alloc | apply Kd.R_drewN | apply Kd.R_drew)); exact HO470.out⟩, ⟨by repeat (first | (with_reducible first | exact HB.out | apply below_alloc | apply pw_below_drewN | apply below_drew1) | exact HB.out)⟩⟩
      · rw [if_neg c13] at H
        have c13b0 : (t471 == 0) = false := beq_eq_false_iff_ne.mpr c13
        have c13b1 : (t471 != 0) = true := bne_iff_ne.mpr c13
        (first | rw [c13b0] | (simp only [i64_w, i32_w]; rw [c13b0]) | skip)
        have H' := Aside0.mk H
        clear H
        go_wp2
        go_meet
        case rel => exact ⟨_, (true), (by first | rfl | (simp; done) | (simp [*]; done)), H', ⟨by first | omega | exact Nat.le_refl _⟩, ⟨by (with_reducible repeat (first | apply Kd.R_alloc | apply Kd.R_drewN | apply Kd.R_drew)); exact HO470.out⟩, ⟨by repeat (first | (with_reducible first | exact HB.out | apply below_alloc | apply pw_below_drewN | apply below_drew1) | exact HB.out)⟩⟩
    case rest =>
      clear HC11
      try clear c1
      try clear p2
      try clear c3
      try clear c4
      try clear c4b0
      try clear c4b1
      try clear p6
      try clear c7
      try clear c13
      try clear c13b0
      try clear c13b1
      try clear c15
      obtain ⟨kq, x49_10, rfl, HA, HJ10, HO_9, HB⟩ := hcut
      cases kq with
      | zero => exact absurd HA.out (by simp [cressetlaw01_CodecTorn.j0])
      | succ kj10 =>
        have H := HA.out
        clear HA
        simp only [cressetlaw01_CodecTorn.j0] at H
        by_cases c19 : x49_10 = true
        · subst c19
          have H1 : (some false) = some true := by rw [if_pos rfl] at H; first | done | exact H
          clear H
          have H := H1
          clear H1
          exact absurd H (by simp)
        · replace c19 := Bool.eq_false_iff.mpr c19
          subst c19
          have H1 : ((bytes_Clone.f t468).bind fun t473 => (if t473.length + l1.length < 140737488355328 then ((codec_Unframe.f kj10 (t473 ++ l1)).bind fun bt479 => (if bt479.2.2 = 0 then (if bt479.2.1 = (t468.length : Int) then ((bytes_Equal.f bt479.1 l0).bind fun t484 => (cressetlaw01_CodecTorn.j1 kj10 l0 a2 t468 (!t484))) else (cressetlaw01_CodecTorn.j1 kj10 l0 a2 t468 true)) else (cressetlaw01_CodecTorn.j1 kj10 l0 a2 t468 true))) else (none))) = some true := by rw [if_neg (show ¬ (false = true) by decide)] at H; first | done | exact H
          clear H
          have H := H1
          clear H1
          replace H := Option.bind_eq_some_iff.mp H
          obtain ⟨t473, A200, H⟩ := H
          replace H : (if t473.length + l1.length < 140737488355328 then ((codec_Unframe.f kj10 (t473 ++ l1)).bind fun bt479 => (if bt479.2.2 = 0 then (if bt479.2.1 = (t468.length : Int) then ((bytes_Equal.f bt479.1 l0).bind fun t484 => (cressetlaw01_CodecTorn.j1 kj10 l0 a2 t468 (!t484))) else (cressetlaw01_CodecTorn.j1 kj10 l0 a2 t468 true)) else (cressetlaw01_CodecTorn.j1 kj10 l0 a2 t468 true))) else (none)) = some true := H
          have A20 := Aside0.mk A200
          clear A200
          by_cases c21 : t473.length + l1.length < 140737488355328
          · rw [if_pos c21] at H
            have LMc21 := Aside0.mk c21
            clear c21
            obtain ⟨y476, hy476⟩ : ∃ y_ : List Int, y_ = (t473 ++ l1) := ⟨_, rfl⟩
            replace H : ((codec_Unframe.f kj10 y476).bind fun bt479 => (if bt479.2.2 = 0 then (if bt479.2.1 = (t468.length : Int) then ((bytes_Equal.f bt479.1 l0).bind fun t484 => (cressetlaw01_CodecTorn.j1 kj10 l0 a2 t468 (!t484))) else (cressetlaw01_CodecTorn.j1 kj10 l0 a2 t468 true)) else (cressetlaw01_CodecTorn.j1 kj10 l0 a2 t468 true))) = some true := by first | (rw [hy476]; with_reducible exact H) | (have H2_ := (Option.bind_some _ _).symm.trans H; rw [hy476]; with_reducible exact H2_) | (have H2_ := (Option.bind_some _ _).symm.trans H; with_reducible exact H2_) | with_reducible exact H | (rw [hy476]; exact H) | exact H
            have Ny476 := Aside0.mk hy476
            clear hy476
            replace H := Option.bind_eq_some_iff.mp H
            obtain ⟨⟨t479, t482, t483⟩, A220, H⟩ := H
            replace H : (if t483 = 0 then (if t482 = (t468.length : Int) then ((bytes_Equal.f t479 l0).bind fun t484 => (cressetlaw01_CodecTorn.j1 kj10 l0 a2 t468 (!t484))) else (cressetlaw01_CodecTorn.j1 kj10 l0 a2 t468 true)) else (cressetlaw01_CodecTorn.j1 kj10 l0 a2 t468 true)) = some true := H
            have A22 := Aside0.mk A220
            clear A220
            have HC23 := Aside0.mk H
            clear H
            obtain ⟨Ao24, co24, eo24⟩ := Kd.R_slice HO_9.out
            subst eo24
            go_upto_region 8 with (first | ((with_reducible refine gate_callee (f := 23) rfl ?_); refine goesL_ (some 52) rfl rfl Try.func23 (by kernel_rfl) rfl #[.slice Ao24 t468.length co24] rfl (by (try simp only [List.map_toArray, List.map_cons, List.map_nil]); first | done | rfl | (simp only [List.length_drop, List.length_take]; rfl)) ?_; (with_reducible refine (bytes_Clone.calls _ _ t468 t473 _ ?side1 ?side2 A20.out).mono ?_); (case side1 => repeat (first | exact (Kd.R_reads' HO_9.out).2.2 | (with_reducible refine Kd.C_alloc ?_ _) | (with_reducible refine Kd.C_drewN ?_ _) | (with_reducible refine Kd.C_drew ?_))); (case side2 => exact (Kd.R_reads' HO_9.out).2.1); rintro e w25 ⟨v474, rfl, ho0, hb⟩; refine ⟨_, rfl, ?_⟩; have n0_ := Aside0.mk (Kd.R_elder' (by (with_reducible repeat (first | apply Kd.R_alloc | apply Kd.R_drewN | apply Kd.R_drew)); exact HO_9.out) (Kd.R_base ho0) hb); have n1_ := Aside0.mk (Kd.R_lower (Kd.R_new' ho0 (Kd.R_lt (by (with_reducible repeat (first | apply Kd.R_alloc | apply Kd.R_drewN | apply Kd.R_drew)); exact HO_9.out))) (below_size (by repeat (first | (with_reducible first | exact HB.out | apply below_alloc | apply pw_below_drewN | apply below_drew1) | exact HB.out)))); have n2_ := Aside0.mk (below_step (by repeat (first | (with_reducible first | exact HB.out | apply below_alloc | apply pw_below_drewN | apply below_drew1) | exact HB.out)) hb); clear HO_9; clear HB; have HO_9 := n0_; have HO475 := n1_; have HB := n2_; clear n0_ n1_ n2_; (try clear hb); (try clear hb2); (try clear hk); (try clear hi); (try clear ho0)) | ((with_reducible refine gate_builtin (b := .append) (xs := #[.tmp 52, .tmp 53]) rfl ?_); (try (refine gate_guard (by rfl) ?_; dsimp only)); at_builtin; refine Kd.R_append_rows (Kd.int .u8) (w0 := w) w.heap.size rfl (.tmp 52) (.tmp 53) 23 5 (.int .u8 0) 1 rfl Try.underlying23 info5 rfl (by decide) (by omega) v474 t473 l1 _ _ _ (fun k_ => some k_ ≠ (.slice Ao24 t468.length co24 : Value).ownBlock) (fun _ => False) rfl rfl ?aO ?aR (fun _ _ h => h) (fun _ h => h.elim) ?aF ?aB ?aS ?aL ?_; (case aR => repeat (first | exact (Kd.C_below HR1.out HB.out) | (with_reducible refine Kd.C_alloc ?_ _) | (with_reducible refine Kd.C_drewN ?_ _) | (with_reducible refine Kd.C_drew ?_))); (case aB => exact (by repeat (first | (with_reducible first | exact HB.out | apply below_alloc | apply pw_below_drewN | apply below_drew1) | exact HB.out))); (case aF => exact (fun k_ hk => Kd.fresh' (Kd.R_lt (by (with_reducible repeat (first | apply Kd.R_alloc | apply Kd.R_drewN | apply Kd.R_drew)); exact HO_9.out)) k_ hk)); (case aO => exact (by (with_reducible repeat (first | apply Kd.R_alloc | apply Kd.R_drewN | apply Kd.R_drew)); exact Kd.R_mono HO475.out (fun _ hk => hk.2))); (case aS => exact (below_size (by repeat (first | (with_reducible first | exact HB.out | apply below_alloc | apply pw_below_drewN | apply below_drew1) | exact HB.out)))); (case aL => have := LMc21.out; omega); intro v477 w26 ho hb hg hat; rw [← Ny476.out] at ho; have n0_ := Aside0.mk (Kd.R_after (ok := (fun _ => True)) (by (with_reducible repeat (first | apply Kd.R_alloc | apply Kd.R_drewN | apply Kd.R_drew)); exact HO_9.out) hg hat); have n1_ := Aside0.mk (hb); have n2_ := Aside0.mk (ho); clear HO_9; clear HB; clear HO475; have HO_9 := n0_; have HB := n1_; have HO478 := n2_; clear n0_ n1_ n2_; clear ho hb hg hat; obtain ⟨Ao27, co27, eo27⟩ := Kd.R_slice HO478.out; subst eo27) | ((with_reducible refine gate_callee (f := 37) rfl ?_); refine goesL_ (some 55) rfl rfl Try.func37 (by kernel_rfl) rfl #[.slice Ao27 y476.length co27] rfl (by (try simp only [List.map_toArray, List.map_cons, List.map_nil]); first | done | rfl | (simp only [List.length_drop, List.length_take]; rfl)) ?_; (with_reducible refine (codec_Unframe.calls kj10 (fun k_ => some k_ = (.slice Ao27 y476.length co27 : Value).ownBlock) _ _ y476 t479 t482 t483 _ ?side1 A22.out).mono ?_); (case side1 => exact Kd.R_V (Kd.R_tight rfl (HO478.out))); rintro e w28 ⟨v480, rfl, ho0, hb⟩; refine ⟨_, rfl, ?_⟩; have n0_ := Aside0.mk (Kd.R_elder' (by (with_reducible repeat (first | apply Kd.R_alloc | apply Kd.R_drewN | apply Kd.R_drew)); exact HO_9.out) (Kd.R_base ho0) hb); have n1_ := Aside0.mk (Kd.R_elder' (by (with_reducible repeat (first | apply Kd.R_alloc | apply Kd.R_drewN | apply Kd.R_drew)); exact HO478.out) (Kd.R_base ho0) hb); have n2_ := Aside0.mk (Kd.R_lower (Kd.R_new' (Kd.R_new' (Kd.R_mono (ok' := fun k_ => True) ho0 (fun _ hk_ => trivial)) (Kd.R_lt (by (with_reducible repeat (first | apply Kd.R_alloc | apply Kd.R_drewN | apply Kd.R_drew)); exact HO_9.out))) (Kd.R_lt (by (with_reducible repeat (first | apply Kd.R_alloc | apply Kd.R_drewN | apply Kd.R_drew)); exact HO478.out))) (below_size (by repeat (first | (with_reducible first | exact HB.out | apply below_alloc | apply pw_below_drewN | apply below_drew1) | exact HB.out)))); have n3_ := Aside0.mk (below_step (by repeat (first | (with_reducible first | exact HB.out | apply below_alloc | apply pw_below_drewN | apply below_drew1) | exact HB.out)) hb); clear HO_9; clear HO478; clear HB; have HO_9 := n0_; have HO478 := n1_; have HO481 := n2_; have HB := n3_; clear n0_ n1_ n2_ n3_; (try clear hb); (try clear hb2); (try clear hk); (try clear hi); (try clear ho0)))
            (try simp only [Act.put, List.setIfInBounds_toArray, List.set_cons_zero, List.set_cons_succ])
            go_cut [72] (fun v72 wc => ∃ (kq : Nat) (x72_22 : Bool), v72 = .bool x72_22 ∧ Aside0 (cressetlaw01_CodecTorn.j1 kq l0 a2 t468 x72_22 = some true) ∧ Aside0 (kq ≤ kj10) ∧ Aside0 (Kd.R (Kd.int .u8) 5 wc w.heap.size (fun _ => True) (.slice Ao24 t468.length co24) t468) ∧ Aside0 (Below w.heap.size w wc))
            case first =>
              have H := HC23.out
              clear HC23
              by_cases c29 : t483 = 0
              · rw [if_pos c29] at H
                have c29b0 : (t483 == 0) = true := beq_iff_eq.mpr c29
                have c29b1 : (t483 != 0) = false := bne_eq_false_iff_eq.mpr c29
                clear c29
                (first | rw [c29b0] | (simp only [i64_w, i32_w]; rw [c29b0]) | skip)
                by_cases c30 : t482 = (t468.length : Int)
                · rw [if_pos c30] at H
                  have c30b0 : (t482 == (t468.length : Int)) = true := beq_iff_eq.mpr c30
                  have c30b1 : (t482 != (t468.length : Int)) = false := bne_eq_false_iff_eq.mpr c30
                  clear c30
                  replace H := Option.bind_eq_some_iff.mp H
                  obtain ⟨t484, A310, H⟩ := H
                  replace H : (cressetlaw01_CodecTorn.j1 kj10 l0 a2 t468 (!t484)) = some true := H
                  have A31 := Aside0.mk A310
                  clear A310
                  have H' := Aside0.mk H
                  clear H
                  obtain ⟨Ao32, co32, eo32⟩ := Kd.R_slice HO481.out
                  subst eo32
                  go_wp2_with (first | (go_at_call 21; (with_reducible refine (bytes_Equal.calls _ _ t479 _ _ l0 t484 _ ?side1 ?side2 ?side3 ?side4 A31.out).mono ?_); (case side1 => repeat (first | exact (Kd.R_reads' HO481.out).2.2 | (with_reducible refine Kd.C_alloc ?_ _) | (with_reducible refine Kd.C_drewN ?_ _) | (with_reducible refine Kd.C_drew ?_))); (case side2 => exact (Kd.R_reads' HO481.out).2.1); (case side3 => repeat (first | exact (Kd.C_below HR0.out HB.out) | (with_reducible refine Kd.C_alloc ?_ _) | (with_reducible refine Kd.C_drewN ?_ _) | (with_reducible refine Kd.C_drew ?_))); (case side4 => exact HC0.out); rintro e w' ⟨rfl, ⟨nd, rfl⟩⟩))
                  go_meet
                  case rel => exact ⟨_, (!t484), (by first | rfl | (simp; done) | (simp [*]; done)), H', ⟨by have := HJ10.out; first | omega | exact Nat.le_refl _⟩, ⟨by (with_reducible repeat (first | apply Kd.R_alloc | apply Kd.R_drewN | apply Kd.R_drew)); exact Kd.R_mono HO_9.out (fun _ hk => trivial)⟩, ⟨by repeat (first | (with_reducible first | exact HB.out | apply below_alloc | apply pw_below_drewN | apply below_drew1) | exact HB.out)⟩⟩
                · rw [if_neg c30] at H
                  have c30b0 : (t482 == (t468.length : Int)) = false := beq_eq_false_iff_ne.mpr c30
                  have c30b1 : (t482 != (t468.length : Int)) = true := bne_iff_ne.mpr c30
                  have H' := Aside0.mk H
                  clear H
                  go_wp2
                  go_meet
                  case rel => exact ⟨_, (true), (by first | rfl | (simp; done) | (simp [*]; done)), H', ⟨by have := HJ10.out; first | omega | exact Nat.le_refl _⟩, ⟨by (with_reducible repeat (first | apply Kd.R_alloc | apply Kd.R_drewN | apply Kd.R_drew)); exact Kd.R_mono HO_9.out (fun _ hk => trivial)⟩, ⟨by repeat (first | (with_reducible first | exact HB.out | apply below_alloc | apply pw_below_drewN | apply below_drew1) | exact HB.out)⟩⟩
              · rw [if_neg c29] at H
                have c29b0 : (t483 == 0) = false := beq_eq_false_iff_ne.mpr c29
                have c29b1 : (t483 != 0) = true := bne_iff_ne.mpr c29
                (first | rw [c29b0] | (simp only [i64_w, i32_w]; rw [c29b0]) | skip)
                have H' := Aside0.mk H
                clear H
                go_wp2
                go_meet
                case rel => exact ⟨_, (true), (by first | rfl | (simp; done) | (simp [*]; done)), H', ⟨by have := HJ10.out; first | omega | exact Nat.le_refl _⟩, ⟨by (with_reducible repeat (first | apply Kd.R_alloc | apply Kd.R_drewN | apply Kd.R_drew)); exact Kd.R_mono HO_9.out (fun _ hk => trivial)⟩, ⟨by repeat (first | (with_reducible first | exact HB.out | apply below_alloc | apply pw_below_drewN | apply below_drew1) | exact HB.out)⟩⟩
            case rest =>
              clear HC23
              try clear c1
              try clear c2
              try clear p2
              try clear c3
              try clear c4
              try clear c4b0
              try clear c4b1
              try clear p6
              try clear c7
              try clear c13
              try clear c13b0
              try clear c13b1
              try clear c15
              try clear c19
              try clear c21
              try clear c23
              try clear c29
              try clear c29b0
              try clear c29b1
              try clear c30
              try clear c30b0
              try clear c30b1
              try clear p2
              try clear p6
              obtain ⟨kq, x72_22, rfl, HA, HJ22, HO_9, HB⟩ := hcut
              cases kq with
              | zero => exact absurd HA.out (by simp [cressetlaw01_CodecTorn.j1])
              | succ kj22 =>
                have H := HA.out
                clear HA
                simp only [cressetlaw01_CodecTorn.j1] at H
                by_cases c33 : x72_22 = true
                · subst c33
                  have H1 : (some false) = some true := by rw [if_pos rfl] at H; first | done | exact H
                  clear H
                  have H := H1
                  clear H1
                  exact absurd H (by simp)
                · replace c33 := Bool.eq_false_iff.mpr c33
                  subst c33
                  have H1 : (if (t468.length : Int) = 0 then (none) else (if 0 ≤ (Int.tmod (wrap64 (a2)) (t468.length : Int)) then (if (Int.tmod (wrap64 (a2)) (t468.length : Int)) ≤ (t468.length : Int) then ((codec_Unframe.f kj22 (t468.take ((Int.tmod (wrap64 (a2)) (t468.length : Int)) : Int).toNat)).bind fun bt490 => (if bt490.2.2 = 10 then (if (wrap64 ((l0.length : Int) + 4)) = 0 then (none) else (if 0 ≤ (wrap64 ((wrap64 ((wrap64 ((t468.length : Int) - (l0.length : Int))) - 4)) + (Int.tmod (wrap64 (a2)) (wrap64 ((l0.length : Int) + 4))))) then (if (wrap64 ((wrap64 ((wrap64 ((t468.length : Int) - (l0.length : Int))) - 4)) + (Int.tmod (wrap64 (a2)) (wrap64 ((l0.length : Int) + 4))))) < (t468.length : Int) then (if 0 ≤ (Int.tmod a2 8) then ((codec_Unframe.f kj22 (t468.set ((wrap64 ((wrap64 ((wrap64 ((t468.length : Int) - (l0.length : Int))) - 4)) + (Int.tmod (wrap64 (a2)) (wrap64 ((l0.length : Int) + 4))))) : Int).toNat (Go.bits .xor .u8 (rd t468 (wrap64 ((wrap64 ((wrap64 ((t468.length : Int) - (l0.length : Int))) - 4)) + (Int.tmod (wrap64 (a2)) (wrap64 ((l0.length : Int) + 4)))))) (shl .u8 1 (Int.tmod a2 8))))).bind fun bt497 => (some (bt497.2.2 == 12))) else (none)) else (none)) else (none))) else (some false))) else (none)) else (none))) = some true := by rw [if_neg (show ¬ (false = true) by decide)] at H; first | done | exact H
                  clear H
                  have H := H1
                  clear H1
                  by_cases c34 : (t468.length : Int) = 0
                  · rw [if_pos c34] at H
                    exact absurd H (by simp)
                  · rw [if_neg c34] at H
                    have c34b0 : ((t468.length : Int) == 0) = false := beq_eq_false_iff_ne.mpr c34
                    have c34b1 : ((t468.length : Int) != 0) = true := bne_iff_ne.mpr c34
                    have c34b2 : ¬ (t468 = []) := fun h_ => c34 (by rw [h_]; rfl)
                    obtain ⟨ji35, hji35⟩ : ∃ j_ : Int, (Int.tmod (wrap64 (a2)) (t468.length : Int)) = j_ := ⟨_, rfl⟩
                    replace H : (if 0 ≤ (ji35) then (if (ji35) ≤ (t468.length : Int) then ((codec_Unframe.f kj22 (t468.take ((ji35) : Int).toNat)).bind fun bt490 => (if bt490.2.2 = 10 then (if (wrap64 ((l0.length : Int) + 4)) = 0 then (none) else (if 0 ≤ (wrap64 ((wrap64 ((wrap64 ((t468.length : Int) - (l0.length : Int))) - 4)) + (Int.tmod (wrap64 (a2)) (wrap64 ((l0.length : Int) + 4))))) then (if (wrap64 ((wrap64 ((wrap64 ((t468.length : Int) - (l0.length : Int))) - 4)) + (Int.tmod (wrap64 (a2)) (wrap64 ((l0.length : Int) + 4))))) < (t468.length : Int) then (if 0 ≤ (Int.tmod a2 8) then ((codec_Unframe.f kj22 (t468.set ((wrap64 ((wrap64 ((wrap64 ((t468.length : Int) - (l0.length : Int))) - 4)) + (Int.tmod (wrap64 (a2)) (wrap64 ((l0.length : Int) + 4))))) : Int).toNat (Go.bits .xor .u8 (rd t468 (wrap64 ((wrap64 ((wrap64 ((t468.length : Int) - (l0.length : Int))) - 4)) + (Int.tmod (wrap64 (a2)) (wrap64 ((l0.length : Int) + 4)))))) (shl .u8 1 (Int.tmod a2 8))))).bind fun bt497 => (some (bt497.2.2 == 12))) else (none)) else (none)) else (none))) else (some false))) else (none)) else (none)) = some true := by first | (rw [hji35] at H; first | done | exact H) | (simp only [hji35] at H ⊢; exact H)
                    by_cases c36 : 0 ≤ (ji35)
                    · rw [if_pos c36] at H
                      have c36b0 := eq_true c36
                      have c36b1 : decide (0 ≤ (ji35)) = true := decide_eq_true c36
                      clear c36
                      by_cases c37 : (ji35) ≤ (t468.length : Int)
                      · rw [if_pos c37] at H
                        have c37b0 := eq_true c37
                        have c37b1 : decide ((ji35) ≤ (t468.length : Int)) = true := decide_eq_true c37
                        clear c37
                        obtain ⟨y485, hy485⟩ : ∃ y_ : List Int, y_ = (t468.take ((ji35) : Int).toNat) := ⟨_, rfl⟩
                        replace H : ((codec_Unframe.f kj22 y485).bind fun bt490 => (if bt490.2.2 = 10 then (if (wrap64 ((l0.length : Int) + 4)) = 0 then (none) else (if 0 ≤ (wrap64 ((wrap64 ((wrap64 ((t468.length : Int) - (l0.length : Int))) - 4)) + (Int.tmod (wrap64 (a2)) (wrap64 ((l0.length : Int) + 4))))) then (if (wrap64 ((wrap64 ((wrap64 ((t468.length : Int) - (l0.length : Int))) - 4)) + (Int.tmod (wrap64 (a2)) (wrap64 ((l0.length : Int) + 4))))) < (t468.length : Int) then (if 0 ≤ (Int.tmod a2 8) then ((codec_Unframe.f kj22 (t468.set ((wrap64 ((wrap64 ((wrap64 ((t468.length : Int) - (l0.length : Int))) - 4)) + (Int.tmod (wrap64 (a2)) (wrap64 ((l0.length : Int) + 4))))) : Int).toNat (Go.bits .xor .u8 (rd t468 (wrap64 ((wrap64 ((wrap64 ((t468.length : Int) - (l0.length : Int))) - 4)) + (Int.tmod (wrap64 (a2)) (wrap64 ((l0.length : Int) + 4)))))) (shl .u8 1 (Int.tmod a2 8))))).bind fun bt497 => (some (bt497.2.2 == 12))) else (none)) else (none)) else (none))) else (some false))) = some true := by first | (rw [hy485]; with_reducible exact H) | (have H2_ := (Option.bind_some _ _).symm.trans H; rw [hy485]; with_reducible exact H2_) | (have H2_ := (Option.bind_some _ _).symm.trans H; with_reducible exact H2_) | with_reducible exact H | (rw [hy485]; exact H) | exact H
                        have Ny485 := Aside0.mk hy485
                        clear hy485
                        replace H := Option.bind_eq_some_iff.mp H
                        obtain ⟨⟨t490, t493, t494⟩, A380, H⟩ := H
                        replace H : (if t494 = 10 then (if (wrap64 ((l0.length : Int) + 4)) = 0 then (none) else (if 0 ≤ (wrap64 ((wrap64 ((wrap64 ((t468.length : Int) - (l0.length : Int))) - 4)) + (Int.tmod (wrap64 (a2)) (wrap64 ((l0.length : Int) + 4))))) then (if (wrap64 ((wrap64 ((wrap64 ((t468.length : Int) - (l0.length : Int))) - 4)) + (Int.tmod (wrap64 (a2)) (wrap64 ((l0.length : Int) + 4))))) < (t468.length : Int) then (if 0 ≤ (Int.tmod a2 8) then ((codec_Unframe.f kj22 (t468.set ((wrap64 ((wrap64 ((wrap64 ((t468.length : Int) - (l0.length : Int))) - 4)) + (Int.tmod (wrap64 (a2)) (wrap64 ((l0.length : Int) + 4))))) : Int).toNat (Go.bits .xor .u8 (rd t468 (wrap64 ((wrap64 ((wrap64 ((t468.length : Int) - (l0.length : Int))) - 4)) + (Int.tmod (wrap64 (a2)) (wrap64 ((l0.length : Int) + 4)))))) (shl .u8 1 (Int.tmod a2 8))))).bind fun bt497 => (some (bt497.2.2 == 12))) else (none)) else (none)) else (none))) else (some false)) = some true := H
                        have A38 := Aside0.mk A380
                        clear A380
                        by_cases c39 : t494 = 10
                        · rw [if_pos c39] at H
                          have c39b0 : (t494 == 10) = true := beq_iff_eq.mpr c39
                          have c39b1 : (t494 != 10) = false := bne_eq_false_iff_eq.mpr c39
                          clear c39
                          by_cases c40 : (wrap64 ((l0.length : Int) + 4)) = 0
                          · rw [if_pos c40] at H
                            exact absurd H (by simp)
                          · rw [if_neg c40] at H
                            have c40b0 : ((wrap64 ((l0.length : Int) + 4)) == 0) = false := beq_eq_false_iff_ne.mpr c40
                            have c40b1 : ((wrap64 ((l0.length : Int) + 4)) != 0) = true := bne_iff_ne.mpr c40
                            obtain ⟨ji41, hji41⟩ : ∃ j_ : Int, (wrap64 ((wrap64 ((wrap64 ((t468.length : Int) - (l0.length : Int))) - 4)) + (Int.tmod (wrap64 (a2)) (wrap64 ((l0.length : Int) + 4))))) = j_ := ⟨_, rfl⟩
                            replace H : (if 0 ≤ (ji41) then (if (ji41) < (t468.length : Int) then (if 0 ≤ (Int.tmod a2 8) then ((codec_Unframe.f kj22 (t468.set ((ji41) : Int).toNat (Go.bits .xor .u8 (rd t468 (ji41)) (shl .u8 1 (Int.tmod a2 8))))).bind fun bt497 => (some (bt497.2.2 == 12))) else (none)) else (none)) else (none)) = some true := by first | (rw [hji41] at H; first | done | exact H) | (simp only [hji41] at H ⊢; exact H)
                            (try rw [hji41] at A38)
                            have hji41w : (IntKind.i64.wrap ((wrap64 ((wrap64 ((t468.length : Int) - (l0.length : Int))) - 4)) + (Int.tmod (wrap64 (a2)) (wrap64 ((l0.length : Int) + 4))))) = ji41 := (i64_w _).trans hji41
                            by_cases c42 : 0 ≤ (ji41)
                            · rw [if_pos c42] at H
                              have c42b0 : decide (0 ≤ (ji41)) = true := decide_eq_true c42
                              clear c42
                              by_cases c43 : (ji41) < (t468.length : Int)
                              · rw [if_pos c43] at H
                                have c43b0 : decide ((ji41) < (t468.length : Int)) = true := decide_eq_true c43
                                clear c43
                                obtain ⟨ji44, hji44⟩ : ∃ j_ : Int, (Int.tmod a2 8) = j_ := ⟨_, rfl⟩
                                replace H : (if 0 ≤ (ji44) then ((codec_Unframe.f kj22 (t468.set ((ji41) : Int).toNat (Go.bits .xor .u8 (rd t468 (ji41)) (shl .u8 1 (ji44))))).bind fun bt497 => (some (bt497.2.2 == 12))) else (none)) = some true := by first | (rw [hji44] at H; first | done | exact H) | (simp only [hji44] at H ⊢; exact H)
                                (try rw [hji44] at A38)
                                by_cases c45 : 0 ≤ (ji44)
                                · rw [if_pos c45] at H
                                  have c45b0 := eq_true c45
                                  have c45b1 : decide (0 ≤ (ji44)) = true := decide_eq_true c45
                                  clear c45
                                  obtain ⟨ji46, hji46⟩ : ∃ j_ : Int, (shl .u8 1 (ji44)) = j_ := ⟨_, rfl⟩
                                  replace H : ((codec_Unframe.f kj22 (t468.set ((ji41) : Int).toNat (Go.bits .xor .u8 (rd t468 (ji41)) (ji46)))).bind fun bt497 => (some (bt497.2.2 == 12))) = some true := by first | (rw [hji46] at H; first | done | exact H) | (simp only [hji46] at H ⊢; exact H)
                                  (try rw [hji46] at A38)
                                  have hji46_ : (IntKind.u8.wrap (1 * 2 ^ min (ji44).toNat 8)) = ji46 := hji46
                                  have hji46z : (ji44) ≤ 8 → (IntKind.u8.wrap (1 * 2 ^ (ji44).toNat)) = ji46 := shl_small hji46
                                  have hji46u : (IntKind.u8.wrap (2 ^ min (ji44).toNat 8)) = ji46 := by have h_ := hji46_; rw [Int.one_mul] at h_; exact h_
                                  have hji46v : (ji44) ≤ 8 → (IntKind.u8.wrap (2 ^ (ji44).toNat)) = ji46 := fun hle_ => by have h_ := hji46z hle_; rw [Int.one_mul] at h_; exact h_
                                  obtain ⟨y496, hy496⟩ : ∃ y_ : List Int, y_ = (t468.set ((ji41) : Int).toNat (Go.bits .xor .u8 (rd t468 (ji41)) (ji46))) := ⟨_, rfl⟩
                                  replace H : ((codec_Unframe.f kj22 y496).bind fun bt497 => (some (bt497.2.2 == 12))) = some true := by first | (rw [hy496]; with_reducible exact H) | (have H2_ := (Option.bind_some _ _).symm.trans H; rw [hy496]; with_reducible exact H2_) | (have H2_ := (Option.bind_some _ _).symm.trans H; with_reducible exact H2_) | with_reducible exact H | (rw [hy496]; exact H) | exact H
                                  have Ny496 := Aside0.mk hy496
                                  clear hy496
                                  replace H := Option.bind_eq_some_iff.mp H
                                  obtain ⟨⟨t497, t500, t501⟩, A480, H⟩ := H
                                  replace H : (some (t501 == 12)) = some true := H
                                  have A48 := Aside0.mk A480
                                  clear A480
                                  have HRT := Aside0.mk (Option.some.inj H)
                                  clear H
                                  have q49 : ((ji35) : Int) ≤ ((t468.length : Int) : Int) := of_decide_eq_true (by first | (with_reducible assumption) | assumption)
                                  obtain ⟨i049, hi049, _, hsz49, _⟩ := info_parts info5
                                  have hroom49 : t468.length ≤ co24 := (Kd.R_reads' HO_9.out).2.1
                                  have hC49 : Kd.F (Kd.int .u8) _ _ Ao24 t468.length t468 := (Kd.V_at (base := w.heap.size) (Kd.R_V HO_9.out)).2.2
                                  have hcut49 := cut_to (P := Try.prog) 23 5 .i64 Try.underlying23 hi049 Ao24 t468.length co24 (ji35) (of_decide_eq_true (by first | (with_reducible assumption) | assumption)) q49 hroom49
                                  have hr49 := Kd.F_take (m := ((ji35) : Int).toNat) hC49 (by omega)
                                  have hy49 : y485.length = ((ji35) : Int).toNat := (by rw [Ny485.out, List.length_take]; omega)
                                  rw [← Ny485.out] at hr49
                                  rw [← hy49] at hcut49
                                  have HO489 := Aside0.mk (show Kd.V (Kd.int .u8) 5 _ w.heap.size _ (.slice Ao24 y485.length co24) y485 from Kd.V_mk (by omega) hr49)
                                  have HC489 := Aside0.mk (show y485.length ≤ co24 from by omega)
                                  clear hr49 hC49 hroom49 hi049 hsz49
                                  have KY49 := Aside0.mk hy49
                                  clear hy49
                                  replace q49 := eq_true q49
                                  go_wp2_with (first | ((with_reducible refine gate_callee (f := 37) rfl ?_); refine goesL_ (some 81) rfl rfl Try.func37 (by kernel_rfl) rfl #[.slice Ao24 y485.length co24] rfl (by (try simp only [List.map_toArray, List.map_cons, List.map_nil]); first | done | rfl | (simp only [List.length_drop, List.length_take]; rfl)) ?_; (with_reducible refine (codec_Unframe.calls kj22 (fun k_ => True) _ _ y485 t490 t493 t494 _ ?side1 A38.out).mono ?_); (case side1 => exact HO489.out); rintro e w50 ⟨v491, rfl, ho0, hb⟩; refine ⟨_, rfl, ?_⟩; have n0_ := Aside0.mk (Kd.R_elder' (by (with_reducible repeat (first | apply Kd.R_alloc | apply Kd.R_drewN | apply Kd.R_drew)); exact HO_9.out) (Kd.R_base ho0) hb); have n1_ := Aside0.mk (Kd.V_elder' (by (with_reducible repeat (first | apply Kd.V_alloc | apply Kd.V_drewN | apply Kd.V_drew)); exact HO489.out) (Kd.R_base ho0) hb); have n2_ := Aside0.mk (Kd.R_lower (Kd.R_new' (Kd.R_mono (ok' := fun k_ => True) ho0 (fun _ hk_ => trivial)) (Kd.R_lt (by (with_reducible repeat (first | apply Kd.R_alloc | apply Kd.R_drewN | apply Kd.R_drew)); exact HO_9.out))) (below_size (by repeat (first | (with_reducible first | exact HB.out | apply below_alloc | apply pw_below_drewN | apply below_drew1) | exact HB.out)))); have n3_ := Aside0.mk (below_step (by repeat (first | (with_reducible first | exact HB.out | apply below_alloc | apply pw_below_drewN | apply below_drew1) | exact HB.out)) hb); clear HO_9; clear HO489; clear HB; have HO_9 := n0_; have HO489 := n1_; have HO492 := n2_; have HB := n3_; clear n0_ n1_ n2_ n3_; (try clear hb); (try clear hb2); (try clear hk); (try clear hi); (try clear ho0); have p495 : 0 ≤ ((ji41) : Int) := of_decide_eq_true (by first | (with_reducible assumption) | assumption); have q495 : (ji41) < (t468.length : Int) := of_decide_eq_true (by first | (with_reducible assumption) | assumption); obtain ⟨ad495, e495, hx495_0⟩ := Kd.at_int (Kd.R_reads' HO_9.out).2.2 (ji41) p495 q495; cases e495; replace p495 := eq_true p495; replace q495 := eq_true q495; have p47 : 0 ≤ ((ji41) : Int) := of_decide_eq_true (by first | (with_reducible assumption) | assumption); have q47 : ((ji41) : Int) < ((t468.length : Int) : Int) := of_decide_eq_true (by first | (with_reducible assumption) | assumption); obtain ⟨go47, co47, eo47, gb47, gl47, cl47, HG47⟩ := Kd.R_form HO_9.out (by omega); (first | cases eo47 | (injection eo47 with ea_ en_ ec_; (first | subst ea_ | (injection ea_ with ea_; subst ea_)); subst ec_; clear en_)); have GB47 := Aside0.mk gb47; have GG47 := Aside0.mk HG47; clear gb47 gl47 HG47; (first | simp only [add_plain] at hx495_0 | skip); obtain ⟨hx47_0, hf47_0⟩ := Kd.R_celln 0 HO_9.out ((ji41) : Int) p47 q47; replace p47 := eq_true p47; replace q47 := eq_true q47; have n_ := Aside0.mk (Kd.R_mono (ok' := (fun k_ => some k_ ≠ (v491 : Value).ownBlock)) HO_9.out (fun k_ hk => hk.2)); clear HO_9; have HO_9 := n_; clear n_; obtain ⟨hy51_, hz51_⟩ := Kd.R_celln 0 HO_9.out ((ji41) : Int) (of_decide_eq_true (by first | (with_reducible assumption) | assumption)) (of_decide_eq_true (by first | (with_reducible assumption) | assumption)); have HP51 := Kd.R_putg HO_9.out ((ji41) : Int) (Go.bits .xor .u8 (rd t468 (ji41)) (ji46))) | ((with_reducible refine gate_store (t := 5) (p := 109) rfl ?_); refine store_event (t := 5) (p := 109) (v := ?vo_w52) (w1 := (w50.setCell ⟨go47, ((ji41) : Int).toNat, none⟩ (.int .u8 (Go.bits .xor .u8 (rd t468 (ji41)) (ji46))))) ?hg ?ho ?hn ?hr ?_; (case ho => rfl); (case hg => rfl); (case hn => rfl); (case hr => first | (go_simp; done) | (go_simp; rfl)); intro w52 hw; have hg : w50.grownBy w52 (some go47) := (by rw [hw]; exact HP51.2); have hp_ : Kd.R (Kd.int .u8) 5 w52 w.heap.size (fun k_ => some k_ ≠ (v491 : Value).ownBlock) (.slice (some ⟨go47, 0, none⟩) t468.length co24) y496 := (by rw [hw, Ny496.out]; exact HP51.1); clear HP51; have n0_ := Aside0.mk (hp_); have n1_ := Aside0.mk (Kd.R_after (v := (.slice (some ⟨go47, 0, none⟩) t468.length co24)) (v1 := (.slice (some ⟨go47, 0, none⟩) t468.length co24)) (ok := (fun _ => True)) (by (with_reducible repeat (first | apply Kd.R_alloc | apply Kd.R_drewN | apply Kd.R_drew)); exact HO492.out) hg (.inl rfl)); have n2_ := Aside0.mk ((by rw [hw]; exact below_set (HB.out) GB47.out : Below w.heap.size w w52)); clear HO_9; clear HO492; clear HB; have HO_9 := n0_; have HO492 := n1_; have HB := n2_; clear n0_ n1_ n2_; clear hg hw hp_) | ((with_reducible refine gate_callee (f := 37) rfl ?_); refine goesL_ (some 112) rfl rfl Try.func37 (by kernel_rfl) rfl #[.slice (some ⟨go47, 0, none⟩) y496.length co24] rfl (by (try simp only [List.map_toArray, List.map_cons, List.map_nil]); first | done | (rw [show y496.length = t468.length from (Kd.R_reads' HO_9.out).1.symm] <;> rfl) | rfl | (simp only [List.length_drop, List.length_take]; rfl)) ?_; (with_reducible refine (codec_Unframe.calls kj22 (fun k_ => some k_ = (.slice (some ⟨go47, 0, none⟩) t468.length co24 : Value).ownBlock) _ _ y496 t497 t500 t501 _ ?side1 A48.out).mono ?_); (case side1 => rw [show y496.length = t468.length from (Kd.R_reads' HO_9.out).1.symm]; exact Kd.R_V (Kd.R_tight rfl (HO_9.out))); rintro e w53 ⟨v498, rfl, ho0, hb⟩; refine ⟨_, rfl, ?_⟩; have n0_ := Aside0.mk (Kd.R_elder' (by (with_reducible repeat (first | apply Kd.R_alloc | apply Kd.R_drewN | apply Kd.R_drew)); exact HO_9.out) (Kd.R_base ho0) hb); have n1_ := Aside0.mk (Kd.R_elder' (by (with_reducible repeat (first | apply Kd.R_alloc | apply Kd.R_drewN | apply Kd.R_drew)); exact HO492.out) (Kd.R_base ho0) hb); have n2_ := Aside0.mk (Kd.R_lower (Kd.R_new' (Kd.R_new' (Kd.R_mono (ok' := fun k_ => True) ho0 (fun _ hk_ => trivial)) (Kd.R_lt (by (with_reducible repeat (first | apply Kd.R_alloc | apply Kd.R_drewN | apply Kd.R_drew)); exact HO_9.out))) (Kd.R_lt (by (with_reducible repeat (first | apply Kd.R_alloc | apply Kd.R_drewN | apply Kd.R_drew)); exact HO492.out))) (below_size (by repeat (first | (with_reducible first | exact HB.out | apply below_alloc | apply pw_below_drewN | apply below_drew1) | exact HB.out)))); have n3_ := Aside0.mk (below_step (by repeat (first | (with_reducible first | exact HB.out | apply below_alloc | apply pw_below_drewN | apply below_drew1) | exact HB.out)) hb); clear HO_9; clear HO492; clear HB; have HO_9 := n0_; have HO492 := n1_; have HO499 := n2_; have HB := n3_; clear n0_ n1_ n2_ n3_; (try clear hb); (try clear hb2); (try clear hk); (try clear hi); (try clear ho0)))
                                  go_ret
                                  exact ⟨by first | exact congrArg (fun b_ => Ending.returned (.bool b_)) HRT.out | rfl | (simp [errW_none, errW_some] <;> rfl) | (simp only [← hji35, ← hji41, ← hji44, ← hji46]; first | rfl | (simp [errW_none, errW_some] <;> rfl)) | (simp [*, errW_none, errW_some] <;> rfl), by repeat (first | (with_reducible first | exact HB.out | apply below_alloc | apply pw_below_drewN | apply below_drew1) | exact HB.out)⟩
                                · rw [if_neg c45] at H
                                  exact absurd H (by simp)
                              · rw [if_neg c43] at H
                                exact absurd H (by simp)
                            · rw [if_neg c42] at H
                              exact absurd H (by simp)
                        · rw [if_neg c39] at H
                          have c39b0 : (t494 == 10) = false := beq_eq_false_iff_ne.mpr c39
                          have c39b1 : (t494 != 10) = true := bne_iff_ne.mpr c39
                          exact absurd H (by simp)
                      · rw [if_neg c37] at H
                        exact absurd H (by simp)
                    · rw [if_neg c36] at H
                      exact absurd H (by simp)
          · rw [if_neg c21] at H
            exact absurd H (by simp)

/-- THE ONE PURE STATEMENT of cressetlaw01_CodecTorn: yours. -/
def cressetlaw01_CodecTorn.Pure : Prop := ∀ (l0 : List Int) (l1 : List Int) (a2 : Int), (l0.length ≤ maxLen ∧ l0.length * 1 ≤ 140737488351232 ∧ ∀ x_ ∈ l0, (Lit.int .u8 x_).wf = true) → (l1.length ≤ maxLen ∧ l1.length * 1 ≤ 140737488351232 ∧ ∀ x_ ∈ l1, (Lit.int .u8 x_).wf = true) → (Lit.int .u16 a2).wf = true → (((l0.map (fun _ => 1)).sum + 1)) + ((((l1.map (fun _ => 1)).sum + 1)) + (1)) ≤ 1048576 → ∃ k, cressetlaw01_CodecTorn.f k l0 l1 a2 = some true
theorem cressetlaw01_CodecTorn.walk (P : cressetlaw01_CodecTorn.Pure) (A0 : Option Addr) (c0 : Nat) (l0 : List Int) (A1 : Option Addr) (c1 : Nat) (l1 : List Int) (a2 : Int) (w : World) (hr0 : Kd.C (Kd.int .u8) w A0 l0.length l0) (hc0 : l0.length ≤ c0) (hr1 : Kd.C (Kd.int .u8) w A1 l1.length l1) (hc1 : l1.length ≤ c1) (w0 : (l0.length ≤ maxLen ∧ l0.length * 1 ≤ 140737488351232 ∧ ∀ x_ ∈ l0, (Lit.int .u8 x_).wf = true)) (w1 : (l1.length ≤ maxLen ∧ l1.length * 1 ≤ 140737488351232 ∧ ∀ x_ ∈ l1, (Lit.int .u8 x_).wf = true)) (w2 : (Lit.int .u16 a2).wf = true) (hU : (((l0.map (fun _ => 1)).sum + 1)) + ((((l1.map (fun _ => 1)).sum + 1)) + (1)) ≤ 1048576) :
    Calls Try.prog 13 #[.slice A0 l0.length c0, .slice A1 l1.length c1, .int .u16 a2] w fun e w' => e = .returned (.bool true) ∧ Below w.heap.size w w' := by
  obtain ⟨k, h⟩ := P l0 l1 a2 w0 w1 w2 hU
  refine (cressetlaw01_CodecTorn.calls k A0 c0 l0 A1 c1 l1 a2 w hr0 hc0 hr1 hc1 h).mono ?_
  rintro e w' ⟨rfl, hd⟩
  exact ⟨rfl, hd⟩

end Go.Proofs.Ytphdinelioendaa.B

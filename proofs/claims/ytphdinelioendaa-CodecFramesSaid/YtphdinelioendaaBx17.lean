-- Written by a program of this session (wip/print2) out of Lean's print of the translation. Not trusted: Lean checks it.
import Derived.Test.YtphdinelioendaaBx0
import Derived.Test.YtphdinelioendaaBx1
import Derived.Test.YtphdinelioendaaBx2
import Derived.Test.YtphdinelioendaaBx15
import Derived.Test.YtphdinelioendaaBx16
namespace Go.Proofs.Ytphdinelioendaa.B
open Go.RowKit Go.Proofs.YtphdinelioendaaW.PrintWords Go.Proofs.YtphdinelioendaaW.PrintLast Go.Proofs.YtphdinelioendaaW.PrintMore Go.Proofs.YtphdinelioendaaW.Mine
attribute [local go_sem] max2_int min2_int max_two min_two max_three min_three max_four min_four str_gtr str_leq str_geq str_max str_min   -- for this text's walks alone
set_option linter.unusedVariables false
set_option linter.unusedSimpArgs false

/-! ### cressetlaw01_CodecFrames: function 12 -/
def cressetlaw01_CodecFrames.f (k : Nat) (l0 : List Int) : Option (Bool) := (codec_Frame.f k l0).bind fun bt421 => ((cressetref01_Frame.f k l0).bind fun bt425 => ((codec_Unframe.f k l0).bind fun bt429 => ((cressetref01_Unframe.f k l0).bind fun bt434 => ((cressetlaw01_live.f k).bind fun t439 => (if t439 = true then ((bytes_Equal.f bt421.1 bt425.1).bind fun t440 => (if t440 = true then (if bt421.2 = bt425.2 then ((bytes_Equal.f bt429.1 bt434.1).bind fun t441 => (if t441 = true then (if bt429.2.1 = bt434.2.1 then (some (bt429.2.2 == bt434.2.2)) else (some false)) else (some false))) else (some false)) else (some false))) else (some false))))))
theorem cressetlaw01_CodecFrames.mono : ∀ a0 k, LeO (cressetlaw01_CodecFrames.f k a0) (cressetlaw01_CodecFrames.f (k + 1) a0) := by
  intro a0 k
  unfold cressetlaw01_CodecFrames.f
  repeat' first
      | (with_reducible exact codec_Frame.mono _ _)
      | (with_reducible exact codec_Unframe.mono _ _)
      | (with_reducible exact cressetlaw01_live.mono _)
      | (with_reducible exact cressetref01_Frame.mono _ _)
      | (with_reducible exact cressetref01_Unframe.mono _ _)
      | (with_reducible exact LeO.refl _)
      | (with_reducible exact LeO.none _)
      | (with_reducible refine LeO.ite ?_ ?_)
      | (with_reducible refine LeO.bind ?_ (fun _ => ?_))
      | exact codec_Frame.mono _ _
      | exact codec_Unframe.mono _ _
      | exact cressetlaw01_live.mono _
      | exact cressetref01_Frame.mono _ _
      | exact cressetref01_Unframe.mono _ _
      | exact LeO.none _
      | refine LeO.ite ?_ ?_
      | refine LeO.bind ?_ (fun _ => ?_)
set_option maxHeartbeats 8000000 in
set_option maxRecDepth 100000 in
theorem cressetlaw01_CodecFrames.calls (k : Nat) (A0 : Option Addr) (c0 : Nat) (l0 : List Int) (w : World) (hr0 : Kd.C (Kd.int .u8) w A0 l0.length l0) (hc0 : l0.length ≤ c0) (h : cressetlaw01_CodecFrames.f k l0 = some true) :
    Calls Try.prog 12 #[.slice A0 l0.length c0] w fun e w' => e = .returned (.bool true) ∧ Below w.heap.size w w' := by
  have HR0 := Aside0.mk hr0
  have HC0 := Aside0.mk hc0
  clear hr0 hc0
  have HB := Aside0.mk (Below.refl w.heap.size w)
  have H : ((codec_Frame.f k l0).bind fun bt421 => ((cressetref01_Frame.f k l0).bind fun bt425 => ((codec_Unframe.f k l0).bind fun bt429 => ((cressetref01_Unframe.f k l0).bind fun bt434 => ((cressetlaw01_live.f k).bind fun t439 => (if t439 = true then ((bytes_Equal.f bt421.1 bt425.1).bind fun t440 => (if t440 = true then (if bt421.2 = bt425.2 then ((bytes_Equal.f bt429.1 bt434.1).bind fun t441 => (if t441 = true then (if bt429.2.1 = bt434.2.1 then (some (bt429.2.2 == bt434.2.2)) else (some false)) else (some false))) else (some false)) else (some false))) else (some false))))))) = some true := h
  clear h
  replace H := Option.bind_eq_some_iff.mp H
  obtain ⟨⟨t421, t424⟩, A20, H⟩ := H
  replace H : ((cressetref01_Frame.f k l0).bind fun bt425 => ((codec_Unframe.f k l0).bind fun bt429 => ((cressetref01_Unframe.f k l0).bind fun bt434 => ((cressetlaw01_live.f k).bind fun t439 => (if t439 = true then ((bytes_Equal.f t421 bt425.1).bind fun t440 => (if t440 = true then (if t424 = bt425.2 then ((bytes_Equal.f bt429.1 bt434.1).bind fun t441 => (if t441 = true then (if bt429.2.1 = bt434.2.1 then (some (bt429.2.2 == bt434.2.2)) else (some false)) else (some false))) else (some false)) else (some false))) else (some false)))))) = some true := H
  have A2 := Aside0.mk A20
  clear A20
  replace H := Option.bind_eq_some_iff.mp H
  obtain ⟨⟨t425, t426⟩, A30, H⟩ := H
  replace H : ((codec_Unframe.f k l0).bind fun bt429 => ((cressetref01_Unframe.f k l0).bind fun bt434 => ((cressetlaw01_live.f k).bind fun t439 => (if t439 = true then ((bytes_Equal.f t421 t425).bind fun t440 => (if t440 = true then (if t424 = t426 then ((bytes_Equal.f bt429.1 bt434.1).bind fun t441 => (if t441 = true then (if bt429.2.1 = bt434.2.1 then (some (bt429.2.2 == bt434.2.2)) else (some false)) else (some false))) else (some false)) else (some false))) else (some false))))) = some true := H
  have A3 := Aside0.mk A30
  clear A30
  replace H := Option.bind_eq_some_iff.mp H
  obtain ⟨⟨t429, t432, t433⟩, A40, H⟩ := H
  replace H : ((cressetref01_Unframe.f k l0).bind fun bt434 => ((cressetlaw01_live.f k).bind fun t439 => (if t439 = true then ((bytes_Equal.f t421 t425).bind fun t440 => (if t440 = true then (if t424 = t426 then ((bytes_Equal.f t429 bt434.1).bind fun t441 => (if t441 = true then (if t432 = bt434.2.1 then (some (t433 == bt434.2.2)) else (some false)) else (some false))) else (some false)) else (some false))) else (some false)))) = some true := H
  have A4 := Aside0.mk A40
  clear A40
  replace H := Option.bind_eq_some_iff.mp H
  obtain ⟨⟨t434, t435, t436⟩, A50, H⟩ := H
  replace H : ((cressetlaw01_live.f k).bind fun t439 => (if t439 = true then ((bytes_Equal.f t421 t425).bind fun t440 => (if t440 = true then (if t424 = t426 then ((bytes_Equal.f t429 t434).bind fun t441 => (if t441 = true then (if t432 = t435 then (some (t433 == t436)) else (some false)) else (some false))) else (some false)) else (some false))) else (some false))) = some true := H
  have A5 := Aside0.mk A50
  clear A50
  replace H := Option.bind_eq_some_iff.mp H
  obtain ⟨t439, A60, H⟩ := H
  replace H : (if t439 = true then ((bytes_Equal.f t421 t425).bind fun t440 => (if t440 = true then (if t424 = t426 then ((bytes_Equal.f t429 t434).bind fun t441 => (if t441 = true then (if t432 = t435 then (some (t433 == t436)) else (some false)) else (some false))) else (some false)) else (some false))) else (some false)) = some true := H
  have A6 := Aside0.mk A60
  clear A60
  by_cases c7 : t439 = true
  · subst c7
    have H1 : ((bytes_Equal.f t421 t425).bind fun t440 => (if t440 = true then (if t424 = t426 then ((bytes_Equal.f t429 t434).bind fun t441 => (if t441 = true then (if t432 = t435 then (some (t433 == t436)) else (some false)) else (some false))) else (some false)) else (some false))) = some true := by rw [if_pos rfl] at H; first | done | exact H
    clear H
    have H := H1
    clear H1
    replace H := Option.bind_eq_some_iff.mp H
    obtain ⟨t440, A80, H⟩ := H
    replace H : (if t440 = true then (if t424 = t426 then ((bytes_Equal.f t429 t434).bind fun t441 => (if t441 = true then (if t432 = t435 then (some (t433 == t436)) else (some false)) else (some false))) else (some false)) else (some false)) = some true := H
    have A8 := Aside0.mk A80
    clear A80
    by_cases c9 : t440 = true
    · subst c9
      have H1 : (if t424 = t426 then ((bytes_Equal.f t429 t434).bind fun t441 => (if t441 = true then (if t432 = t435 then (some (t433 == t436)) else (some false)) else (some false))) else (some false)) = some true := by rw [if_pos rfl] at H; first | done | exact H
      clear H
      have H := H1
      clear H1
      by_cases c10 : t424 = t426
      · rw [if_pos c10] at H
        have c10b0 : (t424 == t426) = true := beq_iff_eq.mpr c10
        have c10b1 : (t424 != t426) = false := bne_eq_false_iff_eq.mpr c10
        clear c10
        replace H := Option.bind_eq_some_iff.mp H
        obtain ⟨t441, A110, H⟩ := H
        replace H : (if t441 = true then (if t432 = t435 then (some (t433 == t436)) else (some false)) else (some false)) = some true := H
        have A11 := Aside0.mk A110
        clear A110
        by_cases c12 : t441 = true
        · subst c12
          have H1 : (if t432 = t435 then (some (t433 == t436)) else (some false)) = some true := by rw [if_pos rfl] at H; first | done | exact H
          clear H
          have H := H1
          clear H1
          by_cases c13 : t432 = t435
          · rw [if_pos c13] at H
            have c13b0 : (t432 == t435) = true := beq_iff_eq.mpr c13
            have c13b1 : (t432 != t435) = false := bne_eq_false_iff_eq.mpr c13
            clear c13
            have HRT := Aside0.mk (Option.some.inj H)
            clear H
            go_enter Try.func12, Try.ntmps12
            go_wp2_with (first | ((with_reducible refine gate_callee (f := 35) rfl ?_); refine goesL_ (some 15) rfl rfl Try.func35 (by kernel_rfl) rfl #[.slice A0 l0.length c0] rfl (by (try simp only [List.map_toArray, List.map_cons, List.map_nil]); first | done | rfl | (simp only [List.length_drop, List.length_take]; rfl)) ?_; (with_reducible refine (codec_Frame.calls k (fun k_ => k_ < w.heap.size) _ _ l0 t421 t424 _ ?side1 A2.out).mono ?_); (case side1 => exact Kd.V_mk HC0.out (Kd.F_below (Kd.C_F (Kd.heap_int .u8) HR0.out) (by repeat (first | (with_reducible first | exact HB.out | apply below_alloc | apply pw_below_drewN | apply below_drew1) | exact HB.out)))); rintro e w14 ⟨v422, rfl, ho0, hb⟩; refine ⟨_, rfl, ?_⟩; have n0_ := Aside0.mk (Kd.R_lower (Kd.R_mono (ok' := fun k_ => True) ho0 (fun _ hk_ => trivial)) (below_size (by repeat (first | (with_reducible first | exact HB.out | apply below_alloc | apply pw_below_drewN | apply below_drew1) | exact HB.out)))); have n1_ := Aside0.mk (below_step (by repeat (first | (with_reducible first | exact HB.out | apply below_alloc | apply pw_below_drewN | apply below_drew1) | exact HB.out)) hb); clear HB; have HO423 := n0_; have HB := n1_; clear n0_ n1_; (try clear hb); (try clear hb2); (try clear hk); (try clear hi); (try clear ho0)) | ((with_reducible refine gate_callee (f := 36) rfl ?_); refine goesL_ (some 20) rfl rfl Try.func36 (by kernel_rfl) rfl #[.slice A0 l0.length c0] rfl (by (try simp only [List.map_toArray, List.map_cons, List.map_nil]); first | done | rfl | (simp only [List.length_drop, List.length_take]; rfl)) ?_; (with_reducible refine (cressetref01_Frame.calls k _ _ l0 t425 t426 _ ?side1 ?side2 A3.out).mono ?_); (case side1 => repeat (first | exact (Kd.C_below HR0.out HB.out) | (with_reducible refine Kd.C_alloc ?_ _) | (with_reducible refine Kd.C_drewN ?_ _) | (with_reducible refine Kd.C_drew ?_))); (case side2 => exact HC0.out); rintro e w15 ⟨v427, rfl, ho0, hb⟩; refine ⟨_, rfl, ?_⟩; have n0_ := Aside0.mk (Kd.R_elder' (by (with_reducible repeat (first | apply Kd.R_alloc | apply Kd.R_drewN | apply Kd.R_drew)); exact HO423.out) (Kd.R_base ho0) hb); have n1_ := Aside0.mk (Kd.R_lower (Kd.R_new' ho0 (Kd.R_lt (by (with_reducible repeat (first | apply Kd.R_alloc | apply Kd.R_drewN | apply Kd.R_drew)); exact HO423.out))) (below_size (by repeat (first | (with_reducible first | exact HB.out | apply below_alloc | apply pw_below_drewN | apply below_drew1) | exact HB.out)))); have n2_ := Aside0.mk (below_step (by repeat (first | (with_reducible first | exact HB.out | apply below_alloc | apply pw_below_drewN | apply below_drew1) | exact HB.out)) hb); clear HO423; clear HB; have HO423 := n0_; have HO428 := n1_; have HB := n2_; clear n0_ n1_ n2_; (try clear hb); (try clear hb2); (try clear hk); (try clear hi); (try clear ho0)) | ((with_reducible refine gate_callee (f := 37) rfl ?_); refine goesL_ (some 25) rfl rfl Try.func37 (by kernel_rfl) rfl #[.slice A0 l0.length c0] rfl (by (try simp only [List.map_toArray, List.map_cons, List.map_nil]); first | done | rfl | (simp only [List.length_drop, List.length_take]; rfl)) ?_; (with_reducible refine (codec_Unframe.calls k (fun k_ => k_ < w.heap.size) _ _ l0 t429 t432 t433 _ ?side1 A4.out).mono ?_); (case side1 => exact Kd.V_mk HC0.out (Kd.F_below (Kd.C_F (Kd.heap_int .u8) HR0.out) (by repeat (first | (with_reducible first | exact HB.out | apply below_alloc | apply pw_below_drewN | apply below_drew1) | exact HB.out)))); rintro e w16 ⟨v430, rfl, ho0, hb⟩; refine ⟨_, rfl, ?_⟩; have n0_ := Aside0.mk (Kd.R_elder' (by (with_reducible repeat (first | apply Kd.R_alloc | apply Kd.R_drewN | apply Kd.R_drew)); exact HO423.out) (Kd.R_base ho0) hb); have n1_ := Aside0.mk (Kd.R_elder' (by (with_reducible repeat (first | apply Kd.R_alloc | apply Kd.R_drewN | apply Kd.R_drew)); exact HO428.out) (Kd.R_base ho0) hb); have n2_ := Aside0.mk (Kd.R_lower (Kd.R_new' (Kd.R_new' (Kd.R_mono (ok' := fun k_ => True) ho0 (fun _ hk_ => trivial)) (Kd.R_lt (by (with_reducible repeat (first | apply Kd.R_alloc | apply Kd.R_drewN | apply Kd.R_drew)); exact HO423.out))) (Kd.R_lt (by (with_reducible repeat (first | apply Kd.R_alloc | apply Kd.R_drewN | apply Kd.R_drew)); exact HO428.out))) (below_size (by repeat (first | (with_reducible first | exact HB.out | apply below_alloc | apply pw_below_drewN | apply below_drew1) | exact HB.out)))); have n3_ := Aside0.mk (below_step (by repeat (first | (with_reducible first | exact HB.out | apply below_alloc | apply pw_below_drewN | apply below_drew1) | exact HB.out)) hb); clear HO423; clear HO428; clear HB; have HO423 := n0_; have HO428 := n1_; have HO431 := n2_; have HB := n3_; clear n0_ n1_ n2_ n3_; (try clear hb); (try clear hb2); (try clear hk); (try clear hi); (try clear ho0)) | ((with_reducible refine gate_callee (f := 38) rfl ?_); refine goesL_ (some 31) rfl rfl Try.func38 (by kernel_rfl) rfl #[.slice A0 l0.length c0] rfl (by (try simp only [List.map_toArray, List.map_cons, List.map_nil]); first | done | rfl | (simp only [List.length_drop, List.length_take]; rfl)) ?_; (with_reducible refine (cressetref01_Unframe.calls k _ _ l0 t434 t435 t436 _ ?side1 ?side2 A5.out).mono ?_); (case side1 => repeat (first | exact (Kd.C_below HR0.out HB.out) | (with_reducible refine Kd.C_alloc ?_ _) | (with_reducible refine Kd.C_drewN ?_ _) | (with_reducible refine Kd.C_drew ?_))); (case side2 => exact HC0.out); rintro e w17 ⟨v437, rfl, ho0, hb⟩; refine ⟨_, rfl, ?_⟩; have n0_ := Aside0.mk (Kd.R_elder' (by (with_reducible repeat (first | apply Kd.R_alloc | apply Kd.R_drewN | apply Kd.R_drew)); exact HO423.out) (Kd.R_base ho0) hb); have n1_ := Aside0.mk (Kd.R_elder' (by (with_reducible repeat (first | apply Kd.R_alloc | apply Kd.R_drewN | apply Kd.R_drew)); exact HO428.out) (Kd.R_base ho0) hb); have n2_ := Aside0.mk (Kd.R_elder' (by (with_reducible repeat (first | apply Kd.R_alloc | apply Kd.R_drewN | apply Kd.R_drew)); exact HO431.out) (Kd.R_base ho0) hb); have n3_ := Aside0.mk (Kd.R_lower (Kd.R_new' (Kd.R_new' (Kd.R_new' ho0 (Kd.R_lt (by (with_reducible repeat (first | apply Kd.R_alloc | apply Kd.R_drewN | apply Kd.R_drew)); exact HO423.out))) (Kd.R_lt (by (with_reducible repeat (first | apply Kd.R_alloc | apply Kd.R_drewN | apply Kd.R_drew)); exact HO428.out))) (Kd.R_lt (by (with_reducible repeat (first | apply Kd.R_alloc | apply Kd.R_drewN | apply Kd.R_drew)); exact HO431.out))) (below_size (by repeat (first | (with_reducible first | exact HB.out | apply below_alloc | apply pw_below_drewN | apply below_drew1) | exact HB.out)))); have n4_ := Aside0.mk (below_step (by repeat (first | (with_reducible first | exact HB.out | apply below_alloc | apply pw_below_drewN | apply below_drew1) | exact HB.out)) hb); clear HO423; clear HO428; clear HO431; clear HB; have HO423 := n0_; have HO428 := n1_; have HO431 := n2_; have HO438 := n3_; have HB := n4_; clear n0_ n1_ n2_ n3_ n4_; (try clear hb); (try clear hb2); (try clear hk); (try clear hi); (try clear ho0)) | ((with_reducible refine gate_callee (f := 15) rfl ?_); refine goesL_ (some 35) rfl rfl Try.func15 (by kernel_rfl) rfl #[] rfl (by (try simp only [List.map_toArray, List.map_cons, List.map_nil]); first | done | rfl | (simp only [List.length_drop, List.length_take]; rfl)) ?_; (with_reducible refine (cressetlaw01_live.calls k  true _ A6.out).mono ?_); rintro e w18 ⟨rfl, hb⟩; refine ⟨_, rfl, ?_⟩; have n0_ := Aside0.mk (Kd.R_below (by (with_reducible repeat (first | apply Kd.R_alloc | apply Kd.R_drewN | apply Kd.R_drew)); exact HO423.out) hb); have n1_ := Aside0.mk (Kd.R_below (by (with_reducible repeat (first | apply Kd.R_alloc | apply Kd.R_drewN | apply Kd.R_drew)); exact HO428.out) hb); have n2_ := Aside0.mk (Kd.R_below (by (with_reducible repeat (first | apply Kd.R_alloc | apply Kd.R_drewN | apply Kd.R_drew)); exact HO431.out) hb); have n3_ := Aside0.mk (Kd.R_below (by (with_reducible repeat (first | apply Kd.R_alloc | apply Kd.R_drewN | apply Kd.R_drew)); exact HO438.out) hb); have n4_ := Aside0.mk (below_step (by repeat (first | (with_reducible first | exact HB.out | apply below_alloc | apply pw_below_drewN | apply below_drew1) | exact HB.out)) hb); clear HO423; clear HO428; clear HO431; clear HO438; clear HB; have HO423 := n0_; have HO428 := n1_; have HO431 := n2_; have HO438 := n3_; have HB := n4_; clear n0_ n1_ n2_ n3_ n4_; (try clear hb); (try clear hb2); (try clear hk); (try clear hi); obtain ⟨Ao19, co19, eo19⟩ := Kd.R_slice HO423.out; subst eo19; obtain ⟨Ao20, co20, eo20⟩ := Kd.R_slice HO428.out; subst eo20) | (go_at_call 21; (with_reducible refine (bytes_Equal.calls _ _ t421 _ _ t425 true _ ?side1 ?side2 ?side3 ?side4 A8.out).mono ?_); (case side1 => repeat (first | exact (Kd.R_reads' HO423.out).2.2 | (with_reducible refine Kd.C_alloc ?_ _) | (with_reducible refine Kd.C_drewN ?_ _) | (with_reducible refine Kd.C_drew ?_))); (case side2 => exact (Kd.R_reads' HO423.out).2.1); (case side3 => repeat (first | exact (Kd.R_reads' HO428.out).2.2 | (with_reducible refine Kd.C_alloc ?_ _) | (with_reducible refine Kd.C_drewN ?_ _) | (with_reducible refine Kd.C_drew ?_))); (case side4 => exact (Kd.R_reads' HO428.out).2.1); rintro e w' ⟨rfl, ⟨nd, rfl⟩⟩; obtain ⟨Ao21, co21, eo21⟩ := Kd.R_slice HO431.out; subst eo21; obtain ⟨Ao22, co22, eo22⟩ := Kd.R_slice HO438.out; subst eo22) | (go_at_call 21; (with_reducible refine (bytes_Equal.calls _ _ t429 _ _ t434 true _ ?side1 ?side2 ?side3 ?side4 A11.out).mono ?_); (case side1 => repeat (first | exact (Kd.R_reads' HO431.out).2.2 | (with_reducible refine Kd.C_alloc ?_ _) | (with_reducible refine Kd.C_drewN ?_ _) | (with_reducible refine Kd.C_drew ?_))); (case side2 => exact (Kd.R_reads' HO431.out).2.1); (case side3 => repeat (first | exact (Kd.R_reads' HO438.out).2.2 | (with_reducible refine Kd.C_alloc ?_ _) | (with_reducible refine Kd.C_drewN ?_ _) | (with_reducible refine Kd.C_drew ?_))); (case side4 => exact (Kd.R_reads' HO438.out).2.1); rintro e w' ⟨rfl, ⟨nd, rfl⟩⟩))
            go_ret
            exact ⟨by first | exact congrArg (fun b_ => Ending.returned (.bool b_)) HRT.out | rfl | (simp [errW_none, errW_some] <;> rfl) | (simp [*, errW_none, errW_some] <;> rfl), by repeat (first | (with_reducible first | exact HB.out | apply below_alloc | apply pw_below_drewN | apply below_drew1) | exact HB.out)⟩
          · rw [if_neg c13] at H
            have c13b0 : (t432 == t435) = false := beq_eq_false_iff_ne.mpr c13
            have c13b1 : (t432 != t435) = true := bne_iff_ne.mpr c13
            exact absurd H (by simp)
        · replace c12 := Bool.eq_false_iff.mpr c12
          subst c12
          have H1 : (some false) = some true := by rw [if_neg (show ¬ (false = true) by decide)] at H; first | done | exact H
          clear H
          have H := H1
          clear H1
          exact absurd H (by simp)
      · rw [if_neg c10] at H
        have c10b0 : (t424 == t426) = false := beq_eq_false_iff_ne.mpr c10
        have c10b1 : (t424 != t426) = true := bne_iff_ne.mpr c10
        exact absurd H (by simp)
    · replace c9 := Bool.eq_false_iff.mpr c9
      subst c9
      have H1 : (some false) = some true := by rw [if_neg (show ¬ (false = true) by decide)] at H; first | done | exact H
      clear H
      have H := H1
      clear H1
      exact absurd H (by simp)
  · replace c7 := Bool.eq_false_iff.mpr c7
    subst c7
    have H1 : (some false) = some true := by rw [if_neg (show ¬ (false = true) by decide)] at H; first | done | exact H
    clear H
    have H := H1
    clear H1
    exact absurd H (by simp)

/-- THE ONE PURE STATEMENT of cressetlaw01_CodecFrames: yours. -/
def cressetlaw01_CodecFrames.Pure : Prop := ∀ (l0 : List Int), (l0.length ≤ maxLen ∧ l0.length * 1 ≤ 140737488351232 ∧ ∀ x_ ∈ l0, (Lit.int .u8 x_).wf = true) → ∃ k, cressetlaw01_CodecFrames.f k l0 = some true
theorem cressetlaw01_CodecFrames.walk (P : cressetlaw01_CodecFrames.Pure) (A0 : Option Addr) (c0 : Nat) (l0 : List Int) (w : World) (hr0 : Kd.C (Kd.int .u8) w A0 l0.length l0) (hc0 : l0.length ≤ c0) (w0 : (l0.length ≤ maxLen ∧ l0.length * 1 ≤ 140737488351232 ∧ ∀ x_ ∈ l0, (Lit.int .u8 x_).wf = true)) :
    Calls Try.prog 12 #[.slice A0 l0.length c0] w fun e w' => e = .returned (.bool true) ∧ Below w.heap.size w w' := by
  obtain ⟨k, h⟩ := P l0 w0
  refine (cressetlaw01_CodecFrames.calls k A0 c0 l0 w hr0 hc0 h).mono ?_
  rintro e w' ⟨rfl, hd⟩
  exact ⟨rfl, hd⟩

end Go.Proofs.Ytphdinelioendaa.B

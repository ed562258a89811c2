-- Written by a program of this session (wip/print2) out of Lean's print of the translation. Not trusted: Lean checks it.
import Derived.Test.YtphdinelioendaaBx0
import Derived.Test.YtphdinelioendaaBx1
import Derived.Test.YtphdinelioendaaBx2
import Derived.Test.YtphdinelioendaaBx7
import Derived.Test.YtphdinelioendaaBx13
namespace Go.Proofs.Ytphdinelioendaa.B
open Go.RowKit Go.Proofs.YtphdinelioendaaW.PrintWords Go.Proofs.YtphdinelioendaaW.PrintLast Go.Proofs.YtphdinelioendaaW.PrintMore Go.Proofs.YtphdinelioendaaW.Mine
attribute [local go_sem] max2_int min2_int max_two min_two max_three min_three max_four min_four str_gtr str_leq str_geq str_max str_min   -- for this text's walks alone
set_option linter.unusedVariables false
set_option linter.unusedSimpArgs false

/-! ### cressetlaw01_CodecBack: function 10 -/
def cressetlaw01_CodecBack.j0 : Nat → Int → ByteArray → List Int → Int → Int → Bool → Option (Bool)
  | 0, _, _, _, _, _, _ => none
  | k + 1, x0, x1, x7, x8, x9, x51 => if x51 = true then (some false) else (if 0 ≤ x8 then (if x8 ≤ (x7.length : Int) then ((codec_Text.f k (x7.drop (x8 : Int).toNat)).bind fun bt302 => (if bt302.2.2 = 0 then (if bt302.1.toList = x1.toList then (if (wrap64 (x8 + bt302.2.1)) = x9 then (if 0 ≤ x9 then (if x9 ≤ (x7.length : Int) then ((codec_Flag.f k (x7.drop (x9 : Int).toNat)).bind fun bt309 => (if bt309.2.2 = 0 then (if (bt309.1 == (decide (x0 > 0))) = true then (some (bt309.2.1 == 1)) else (some false)) else (some false))) else (none)) else (none)) else (some false)) else (some false)) else (some false))) else (none)) else (none))
def cressetlaw01_CodecBack.f (k : Nat) (a0 : Int) (a1 : ByteArray) (l2 : List Int) : Option (Bool) := (cressetlaw01_live.f k).bind fun t282 => (if t282 = true then ((codec_PutInt.f k ([] : List Int) a0).bind fun t283 => ((codec_PutText.f k t283 a1).bind fun t286 => ((codec_PutFlag.f k t286 (decide (a0 > 0))).bind fun t289 => (if t289.length + l2.length < 140737488355328 then ((some (t289 ++ l2 : List Int)).bind fun y292 => ((codec_Int.f k y292).bind fun bt295 => (if bt295.2.2 = 0 then (if bt295.1 = a0 then (cressetlaw01_CodecBack.j0 k a0 a1 y292 (t283.length : Int) (t286.length : Int) (bt295.2.1 != (t283.length : Int))) else (cressetlaw01_CodecBack.j0 k a0 a1 y292 (t283.length : Int) (t286.length : Int) true)) else (cressetlaw01_CodecBack.j0 k a0 a1 y292 (t283.length : Int) (t286.length : Int) true)))) else (none))))) else (some false))
theorem cressetlaw01_CodecBack.mono_l : ∀ k, (∀ y0 y1 y2 y3 y4 y5, LeO (cressetlaw01_CodecBack.j0 k y0 y1 y2 y3 y4 y5) (cressetlaw01_CodecBack.j0 (k + 1) y0 y1 y2 y3 y4 y5))
  | 0 => fun _ _ _ _ _ _ r h => by simp [cressetlaw01_CodecBack.j0] at h
  | k + 1 => by
    have ih0 := cressetlaw01_CodecBack.mono_l k
    · intro y0 y1 y2 y3 y4 y5
      unfold cressetlaw01_CodecBack.j0
      repeat' first
      | (with_reducible exact ih0 _ _ _ _ _ _)
      | (with_reducible exact codec_Flag.mono _ _)
      | (with_reducible exact codec_Int.mono _ _)
      | (with_reducible exact codec_PutFlag.mono _ _ _)
      | (with_reducible exact codec_PutInt.mono _ _ _)
      | (with_reducible exact codec_PutText.mono _ _ _)
      | (with_reducible exact codec_Text.mono _ _)
      | (with_reducible exact cressetlaw01_live.mono _)
      | (with_reducible exact LeO.refl _)
      | (with_reducible exact LeO.none _)
      | (with_reducible refine LeO.ite ?_ ?_)
      | (with_reducible refine LeO.bind ?_ (fun _ => ?_))
      | exact ih0 _ _ _ _ _ _
      | exact codec_Flag.mono _ _
      | exact codec_Int.mono _ _
      | exact codec_PutFlag.mono _ _ _
      | exact codec_PutInt.mono _ _ _
      | exact codec_PutText.mono _ _ _
      | exact codec_Text.mono _ _
      | exact cressetlaw01_live.mono _
      | exact LeO.none _
      | refine LeO.ite ?_ ?_
      | refine LeO.bind ?_ (fun _ => ?_)
theorem cressetlaw01_CodecBack.mono : ∀ a0 a1 a2 k, LeO (cressetlaw01_CodecBack.f k a0 a1 a2) (cressetlaw01_CodecBack.f (k + 1) a0 a1 a2) := by
  intro a0 a1 a2 k
  have ih0 := cressetlaw01_CodecBack.mono_l k
  unfold cressetlaw01_CodecBack.f
  repeat' first
      | (with_reducible exact ih0 _ _ _ _ _ _)
      | (with_reducible exact codec_Flag.mono _ _)
      | (with_reducible exact codec_Int.mono _ _)
      | (with_reducible exact codec_PutFlag.mono _ _ _)
      | (with_reducible exact codec_PutInt.mono _ _ _)
      | (with_reducible exact codec_PutText.mono _ _ _)
      | (with_reducible exact codec_Text.mono _ _)
      | (with_reducible exact cressetlaw01_live.mono _)
      | (with_reducible exact LeO.refl _)
      | (with_reducible exact LeO.none _)
      | (with_reducible refine LeO.ite ?_ ?_)
      | (with_reducible refine LeO.bind ?_ (fun _ => ?_))
      | exact ih0 _ _ _ _ _ _
      | exact codec_Flag.mono _ _
      | exact codec_Int.mono _ _
      | exact codec_PutFlag.mono _ _ _
      | exact codec_PutInt.mono _ _ _
      | exact codec_PutText.mono _ _ _
      | exact codec_Text.mono _ _
      | exact cressetlaw01_live.mono _
      | exact LeO.none _
      | refine LeO.ite ?_ ?_
      | refine LeO.bind ?_ (fun _ => ?_)
set_option maxHeartbeats 8000000 in
set_option maxRecDepth 100000 in
theorem cressetlaw01_CodecBack.calls (k : Nat) (a0 : Int) (a1 : ByteArray) (A2 : Option Addr) (c2 : Nat) (l2 : List Int) (w : World) (hr2 : Kd.C (Kd.int .u8) w A2 l2.length l2) (hc2 : l2.length ≤ c2) (h : cressetlaw01_CodecBack.f k a0 a1 l2 = some true) :
    Calls Try.prog 10 #[.int .i64 a0, .string a1, .slice A2 l2.length c2] w fun e w' => e = .returned (.bool true) ∧ Below w.heap.size w w' := by
  have HR2 := Aside0.mk hr2
  have HC2 := Aside0.mk hc2
  clear hr2 hc2
  have HB := Aside0.mk (Below.refl w.heap.size w)
  have H : ((cressetlaw01_live.f k).bind fun t282 => (if t282 = true then ((codec_PutInt.f k ([] : List Int) a0).bind fun t283 => ((codec_PutText.f k t283 a1).bind fun t286 => ((codec_PutFlag.f k t286 (decide (a0 > 0))).bind fun t289 => (if t289.length + l2.length < 140737488355328 then ((some (t289 ++ l2 : List Int)).bind fun y292 => ((codec_Int.f k y292).bind fun bt295 => (if bt295.2.2 = 0 then (if bt295.1 = a0 then (cressetlaw01_CodecBack.j0 k a0 a1 y292 (t283.length : Int) (t286.length : Int) (bt295.2.1 != (t283.length : Int))) else (cressetlaw01_CodecBack.j0 k a0 a1 y292 (t283.length : Int) (t286.length : Int) true)) else (cressetlaw01_CodecBack.j0 k a0 a1 y292 (t283.length : Int) (t286.length : Int) true)))) else (none))))) else (some false))) = some true := h
  clear h
  replace H := Option.bind_eq_some_iff.mp H
  obtain ⟨t282, A40, H⟩ := H
  replace H : (if t282 = true then ((codec_PutInt.f k ([] : List Int) a0).bind fun t283 => ((codec_PutText.f k t283 a1).bind fun t286 => ((codec_PutFlag.f k t286 (decide (a0 > 0))).bind fun t289 => (if t289.length + l2.length < 140737488355328 then ((some (t289 ++ l2 : List Int)).bind fun y292 => ((codec_Int.f k y292).bind fun bt295 => (if bt295.2.2 = 0 then (if bt295.1 = a0 then (cressetlaw01_CodecBack.j0 k a0 a1 y292 (t283.length : Int) (t286.length : Int) (bt295.2.1 != (t283.length : Int))) else (cressetlaw01_CodecBack.j0 k a0 a1 y292 (t283.length : Int) (t286.length : Int) true)) else (cressetlaw01_CodecBack.j0 k a0 a1 y292 (t283.length : Int) (t286.length : Int) true)))) else (none))))) else (some false)) = some true := H
  have A4 := Aside0.mk A40
  clear A40
  by_cases c5 : t282 = true
  · subst c5
    have H1 : ((codec_PutInt.f k ([] : List Int) a0).bind fun t283 => ((codec_PutText.f k t283 a1).bind fun t286 => ((codec_PutFlag.f k t286 (decide (a0 > 0))).bind fun t289 => (if t289.length + l2.length < 140737488355328 then ((some (t289 ++ l2 : List Int)).bind fun y292 => ((codec_Int.f k y292).bind fun bt295 => (if bt295.2.2 = 0 then (if bt295.1 = a0 then (cressetlaw01_CodecBack.j0 k a0 a1 y292 (t283.length : Int) (t286.length : Int) (bt295.2.1 != (t283.length : Int))) else (cressetlaw01_CodecBack.j0 k a0 a1 y292 (t283.length : Int) (t286.length : Int) true)) else (cressetlaw01_CodecBack.j0 k a0 a1 y292 (t283.length : Int) (t286.length : Int) true)))) else (none))))) = some true := by rw [if_pos rfl] at H; first | done | exact H
    clear H
    have H := H1
    clear H1
    replace H := Option.bind_eq_some_iff.mp H
    obtain ⟨t283, A60, H⟩ := H
    replace H : ((codec_PutText.f k t283 a1).bind fun t286 => ((codec_PutFlag.f k t286 (decide (a0 > 0))).bind fun t289 => (if t289.length + l2.length < 140737488355328 then ((some (t289 ++ l2 : List Int)).bind fun y292 => ((codec_Int.f k y292).bind fun bt295 => (if bt295.2.2 = 0 then (if bt295.1 = a0 then (cressetlaw01_CodecBack.j0 k a0 a1 y292 (t283.length : Int) (t286.length : Int) (bt295.2.1 != (t283.length : Int))) else (cressetlaw01_CodecBack.j0 k a0 a1 y292 (t283.length : Int) (t286.length : Int) true)) else (cressetlaw01_CodecBack.j0 k a0 a1 y292 (t283.length : Int) (t286.length : Int) true)))) else (none)))) = some true := H
    have A6 := Aside0.mk A60
    clear A60
    replace H := Option.bind_eq_some_iff.mp H
    obtain ⟨t286, A70, H⟩ := H
    replace H : ((codec_PutFlag.f k t286 (decide (a0 > 0))).bind fun t289 => (if t289.length + l2.length < 140737488355328 then ((some (t289 ++ l2 : List Int)).bind fun y292 => ((codec_Int.f k y292).bind fun bt295 => (if bt295.2.2 = 0 then (if bt295.1 = a0 then (cressetlaw01_CodecBack.j0 k a0 a1 y292 (t283.length : Int) (t286.length : Int) (bt295.2.1 != (t283.length : Int))) else (cressetlaw01_CodecBack.j0 k a0 a1 y292 (t283.length : Int) (t286.length : Int) true)) else (cressetlaw01_CodecBack.j0 k a0 a1 y292 (t283.length : Int) (t286.length : Int) true)))) else (none))) = some true := H
    have A7 := Aside0.mk A70
    clear A70
    replace H := Option.bind_eq_some_iff.mp H
    obtain ⟨t289, A80, H⟩ := H
    replace H : (if t289.length + l2.length < 140737488355328 then ((some (t289 ++ l2 : List Int)).bind fun y292 => ((codec_Int.f k y292).bind fun bt295 => (if bt295.2.2 = 0 then (if bt295.1 = a0 then (cressetlaw01_CodecBack.j0 k a0 a1 y292 (t283.length : Int) (t286.length : Int) (bt295.2.1 != (t283.length : Int))) else (cressetlaw01_CodecBack.j0 k a0 a1 y292 (t283.length : Int) (t286.length : Int) true)) else (cressetlaw01_CodecBack.j0 k a0 a1 y292 (t283.length : Int) (t286.length : Int) true)))) else (none)) = some true := H
    have A8 := Aside0.mk A80
    clear A80
    by_cases c9 : t289.length + l2.length < 140737488355328
    · rw [if_pos c9] at H
      have LMc9 := Aside0.mk c9
      clear c9
      obtain ⟨y292, hy292⟩ : ∃ y_ : List Int, y_ = (t289 ++ l2) := ⟨_, rfl⟩
      replace H : ((codec_Int.f k y292).bind fun bt295 => (if bt295.2.2 = 0 then (if bt295.1 = a0 then (cressetlaw01_CodecBack.j0 k a0 a1 y292 (t283.length : Int) (t286.length : Int) (bt295.2.1 != (t283.length : Int))) else (cressetlaw01_CodecBack.j0 k a0 a1 y292 (t283.length : Int) (t286.length : Int) true)) else (cressetlaw01_CodecBack.j0 k a0 a1 y292 (t283.length : Int) (t286.length : Int) true))) = some true := by first | (rw [hy292]; with_reducible exact H) | (have H2_ := (Option.bind_some _ _).symm.trans H; rw [hy292]; with_reducible exact H2_) | (have H2_ := (Option.bind_some _ _).symm.trans H; with_reducible exact H2_) | with_reducible exact H | (rw [hy292]; exact H) | exact H
      have Ny292 := Aside0.mk hy292
      clear hy292
      replace H := Option.bind_eq_some_iff.mp H
      obtain ⟨⟨t295, t296, t297⟩, A100, H⟩ := H
      replace H : (if t297 = 0 then (if t295 = a0 then (cressetlaw01_CodecBack.j0 k a0 a1 y292 (t283.length : Int) (t286.length : Int) (t296 != (t283.length : Int))) else (cressetlaw01_CodecBack.j0 k a0 a1 y292 (t283.length : Int) (t286.length : Int) true)) else (cressetlaw01_CodecBack.j0 k a0 a1 y292 (t283.length : Int) (t286.length : Int) true)) = some true := H
      have A10 := Aside0.mk A100
      clear A100
      have HC11 := Aside0.mk H
      clear H
      go_enter Try.func10, Try.ntmps10
      go_upto_region 9 with (first | ((with_reducible refine gate_callee (f := 15) rfl ?_); refine goesL_ (some 17) rfl rfl Try.func15 (by kernel_rfl) rfl #[] rfl (by (try simp only [List.map_toArray, List.map_cons, List.map_nil]); first | done | rfl | (simp only [List.length_drop, List.length_take]; rfl)) ?_; (with_reducible refine (cressetlaw01_live.calls k  true _ A4.out).mono ?_); rintro e w12 ⟨rfl, hb⟩; refine ⟨_, rfl, ?_⟩; have n0_ := Aside0.mk (below_step (by repeat (first | (with_reducible first | exact HB.out | apply below_alloc | apply pw_below_drewN | apply below_drew1) | exact HB.out)) hb); clear HB; have HB := n0_; clear n0_; (try clear hb); (try clear hb2); (try clear hk); (try clear hi)) | ((with_reducible refine gate_callee (f := 22) rfl ?_); refine goesL_ (some 20) rfl rfl Try.func22 (by kernel_rfl) rfl #[.slice none 0 0, .int .i64 a0] rfl (by (try simp only [List.map_toArray, List.map_cons, List.map_nil]); first | done | rfl | (simp only [List.length_drop, List.length_take]; rfl)) ?_; (refine (codec_PutInt.calls k _ _ ([] : List Int) a0 t283 _ ?side1 ?side2 A6.out).mono ?_); (case side1 => exact Kd.C_nil _ _); (case side2 => exact Nat.le_refl _); rintro e w13 ⟨v284, rfl, ho0, hb⟩; refine ⟨_, rfl, ?_⟩; have n0_ := Aside0.mk (Kd.R_lower ho0 (below_size (by repeat (first | (with_reducible first | exact HB.out | apply below_alloc | apply pw_below_drewN | apply below_drew1) | exact HB.out)))); have n1_ := Aside0.mk (below_step (by repeat (first | (with_reducible first | exact HB.out | apply below_alloc | apply pw_below_drewN | apply below_drew1) | exact HB.out)) hb); clear HB; have HO285 := n0_; have HB := n1_; clear n0_ n1_; (try clear hb); (try clear hb2); (try clear hk); (try clear hi); (try clear ho0); obtain ⟨Ao14, co14, eo14⟩ := Kd.R_slice HO285.out; subst eo14) | ((with_reducible refine gate_callee (f := 27) rfl ?_); refine goesL_ (some 25) rfl rfl Try.func27 (by kernel_rfl) rfl #[.slice Ao14 t283.length co14, .string a1] rfl (by (try simp only [List.map_toArray, List.map_cons, List.map_nil]); first | done | rfl | (simp only [List.length_drop, List.length_take]; rfl)) ?_; (with_reducible refine (codec_PutText.calls k _ _ t283 a1 t286 _ ?side1 ?side2 A7.out).mono ?_); (case side1 => repeat (first | exact (Kd.R_reads' HO285.out).2.2 | (with_reducible refine Kd.C_alloc ?_ _) | (with_reducible refine Kd.C_drewN ?_ _) | (with_reducible refine Kd.C_drew ?_))); (case side2 => exact (Kd.R_reads' HO285.out).2.1); rintro e w15 ⟨v287, rfl, ho0, hb⟩; refine ⟨_, rfl, ?_⟩; have n0_ := Aside0.mk (Kd.R_elder' (by (with_reducible repeat (first | apply Kd.R_alloc | apply Kd.R_drewN | apply Kd.R_drew)); exact HO285.out) (Kd.R_base ho0) hb); have n1_ := Aside0.mk (Kd.R_lower (Kd.R_new' ho0 (Kd.R_lt (by (with_reducible repeat (first | apply Kd.R_alloc | apply Kd.R_drewN | apply Kd.R_drew)); exact HO285.out))) (below_size (by repeat (first | (with_reducible first | exact HB.out | apply below_alloc | apply pw_below_drewN | apply below_drew1) | exact HB.out)))); have n2_ := Aside0.mk (below_step (by repeat (first | (with_reducible first | exact HB.out | apply below_alloc | apply pw_below_drewN | apply below_drew1) | exact HB.out)) hb); clear HO285; clear HB; have HO285 := n0_; have HO288 := n1_; have HB := n2_; clear n0_ n1_ n2_; (try clear hb); (try clear hb2); (try clear hk); (try clear hi); (try clear ho0); obtain ⟨Ao16, co16, eo16⟩ := Kd.R_slice HO288.out; subst eo16) | ((with_reducible refine gate_callee (f := 30) rfl ?_); refine goesL_ (some 31) rfl rfl Try.func30 (by kernel_rfl) rfl #[.slice Ao16 t286.length co16, .bool (decide (a0 > 0))] rfl (by (try simp only [List.map_toArray, List.map_cons, List.map_nil]); first | done | rfl | (simp only [List.length_drop, List.length_take]; rfl)) ?_; (with_reducible refine (codec_PutFlag.calls k _ _ t286 (decide (a0 > 0)) t289 _ ?side1 ?side2 A8.out).mono ?_); (case side1 => repeat (first | exact (Kd.R_reads' HO288.out).2.2 | (with_reducible refine Kd.C_alloc ?_ _) | (with_reducible refine Kd.C_drewN ?_ _) | (with_reducible refine Kd.C_drew ?_))); (case side2 => exact (Kd.R_reads' HO288.out).2.1); rintro e w17 ⟨v290, rfl, ho0, hb⟩; refine ⟨_, rfl, ?_⟩; have n0_ := Aside0.mk (Kd.R_elder' (by (with_reducible repeat (first | apply Kd.R_alloc | apply Kd.R_drewN | apply Kd.R_drew)); exact HO285.out) (Kd.R_base ho0) hb); have n1_ := Aside0.mk (Kd.R_elder' (by (with_reducible repeat (first | apply Kd.R_alloc | apply Kd.R_drewN | apply Kd.R_drew)); exact HO288.out) (Kd.R_base ho0) hb); have n2_ := Aside0.mk (Kd.R_lower (Kd.R_new' (Kd.R_new' ho0 (Kd.R_lt (by (with_reducible repeat (first | apply Kd.R_alloc | apply Kd.R_drewN | apply Kd.R_drew)); exact HO285.out))) (Kd.R_lt (by (with_reducible repeat (first | apply Kd.R_alloc | apply Kd.R_drewN | apply Kd.R_drew)); exact HO288.out))) (below_size (by repeat (first | (with_reducible first | exact HB.out | apply below_alloc | apply pw_below_drewN | apply below_drew1) | exact HB.out)))); have n3_ := Aside0.mk (below_step (by repeat (first | (with_reducible first | exact HB.out | apply below_alloc | apply pw_below_drewN | apply below_drew1) | exact HB.out)) hb); clear HO285; clear HO288; clear HB; have HO285 := n0_; have HO288 := n1_; have HO291 := n2_; have HB := n3_; clear n0_ n1_ n2_ n3_; (try clear hb); (try clear hb2); (try clear hk); (try clear hi); (try clear ho0)) | ((with_reducible refine gate_builtin (b := .append) (xs := #[.tmp 31, .tmp 32]) rfl ?_); at_builtin; refine Kd.R_append_rows (Kd.int .u8) (w0 := w) w.heap.size rfl (.tmp 31) (.tmp 32) 23 5 (.int .u8 0) 1 rfl Try.underlying23 info5 rfl (by decide) (by omega) v290 t289 l2 _ _ _ (fun k_ => some k_ ≠ (.slice Ao14 t283.length co14 : Value).ownBlock ∧ some k_ ≠ (.slice Ao16 t286.length co16 : Value).ownBlock) (fun _ => False) rfl rfl ?aO ?aR (fun _ _ h => h) (fun _ h => h.elim) ?aF ?aB ?aS ?aL ?_; (case aR => repeat (first | exact (Kd.C_below HR2.out HB.out) | (with_reducible refine Kd.C_alloc ?_ _) | (with_reducible refine Kd.C_drewN ?_ _) | (with_reducible refine Kd.C_drew ?_))); (case aB => exact (by repeat (first | (with_reducible first | exact HB.out | apply below_alloc | apply pw_below_drewN | apply below_drew1) | exact HB.out))); (case aF => exact (fun k_ hk => ⟨Kd.fresh' (Kd.R_lt (by (with_reducible repeat (first | apply Kd.R_alloc | apply Kd.R_drewN | apply Kd.R_drew)); exact HO285.out)) k_ hk, Kd.fresh' (Kd.R_lt (by (with_reducible repeat (first | apply Kd.R_alloc | apply Kd.R_drewN | apply Kd.R_drew)); exact HO288.out)) k_ hk⟩)); (case aO => exact (by (with_reducible repeat (first | apply Kd.R_alloc | apply Kd.R_drewN | apply Kd.R_drew)); exact Kd.R_mono HO291.out (fun _ hk => ⟨hk.1.2, hk.2⟩))); (case aS => exact (below_size (by repeat (first | (with_reducible first | exact HB.out | apply below_alloc | apply pw_below_drewN | apply below_drew1) | exact HB.out)))); (case aL => have := LMc9.out; omega); intro v293 w18 ho hb hg hat; rw [← Ny292.out] at ho; have n0_ := Aside0.mk (Kd.R_after (ok := (fun k_ => some k_ ≠ (.slice Ao16 t286.length co16 : Value).ownBlock)) (by (with_reducible repeat (first | apply Kd.R_alloc | apply Kd.R_drewN | apply Kd.R_drew)); exact Kd.R_mono HO285.out (fun _ hk => ⟨hk.1.2, hk.2⟩)) hg hat); have n1_ := Aside0.mk (Kd.R_after (ok := (fun k_ => some k_ ≠ (.slice Ao14 t283.length co14 : Value).ownBlock)) (by (with_reducible repeat (first | apply Kd.R_alloc | apply Kd.R_drewN | apply Kd.R_drew)); exact Kd.R_mono HO288.out (fun _ hk => ⟨hk.1.2, hk.2⟩)) hg hat); have n2_ := Aside0.mk (hb); have n3_ := Aside0.mk (ho); clear HO285; clear HO288; clear HB; clear HO291; have HO285 := n0_; have HO288 := n1_; have HB := n2_; have HO294 := n3_; clear n0_ n1_ n2_ n3_; clear ho hb hg hat; obtain ⟨Ao19, co19, eo19⟩ := Kd.R_slice HO294.out; subst eo19) | ((with_reducible refine gate_callee (f := 19) rfl ?_); refine goesL_ (some 36) rfl rfl Try.func19 (by kernel_rfl) rfl #[.slice Ao19 y292.length co19] rfl (by (try simp only [List.map_toArray, List.map_cons, List.map_nil]); first | done | rfl | (simp only [List.length_drop, List.length_take]; rfl)) ?_; (with_reducible refine (codec_Int.calls k _ _ y292 t295 t296 t297 _ ?side1 ?side2 A10.out).mono ?_); (case side1 => repeat (first | exact (Kd.R_reads' HO294.out).2.2 | (with_reducible refine Kd.C_alloc ?_ _) | (with_reducible refine Kd.C_drewN ?_ _) | (with_reducible refine Kd.C_drew ?_))); (case side2 => exact (Kd.R_reads' HO294.out).2.1); rintro e w' ⟨rfl, ⟨nd, rfl⟩⟩; refine ⟨_, rfl, ?_⟩))
      (try simp only [Act.put, List.setIfInBounds_toArray, List.set_cons_zero, List.set_cons_succ])
      go_cut [51] (fun v51 wc => ∃ (kq : Nat) (x51_10 : Bool), v51 = .bool x51_10 ∧ Aside0 (cressetlaw01_CodecBack.j0 kq a0 a1 y292 (t283.length : Int) (t286.length : Int) x51_10 = some true) ∧ Aside0 (kq ≤ k) ∧ Aside0 (Kd.R (Kd.int .u8) 5 wc w.heap.size (fun _ => True) (.slice Ao19 y292.length co19) y292) ∧ Aside0 (Below w.heap.size w wc))
      case first =>
        have H := HC11.out
        clear HC11
        by_cases c20 : t297 = 0
        · rw [if_pos c20] at H
          have c20b0 : (t297 == 0) = true := beq_iff_eq.mpr c20
          have c20b1 : (t297 != 0) = false := bne_eq_false_iff_eq.mpr c20
          clear c20
          (first | rw [c20b0] | (simp only [i64_w, i32_w]; rw [c20b0]) | skip)
          by_cases c21 : t295 = a0
          · rw [if_pos c21] at H
            have c21b0 : (t295 == a0) = true := beq_iff_eq.mpr c21
            have c21b1 : (t295 != a0) = false := bne_eq_false_iff_eq.mpr c21
            clear c21
            have H' := Aside0.mk H
            clear H
            go_wp2
            go_meet
            case rel => exact ⟨_, ((t296 != (t283.length : Int))), (by first | rfl | (simp; done) | (simp [*]; done)), H', ⟨by first | omega | exact Nat.le_refl _⟩, ⟨by (with_reducible repeat (first | apply Kd.R_alloc | apply Kd.R_drewN | apply Kd.R_drew)); exact Kd.R_mono HO294.out (fun _ hk => trivial)⟩, ⟨by repeat (first | (with_reducible first | exact HB.out | apply below_alloc | apply pw_below_drewN | apply below_drew1) | exact HB.out)⟩⟩
          · rw [if_neg c21] at H
            have c21b0 : (t295 == a0) = false := beq_eq_false_iff_ne.mpr c21
            have c21b1 : (t295 != a0) = true := bne_iff_ne.mpr c21
            have H' := Aside0.mk H
            clear H
            go_wp2
            go_meet
            case rel => exact ⟨_, (true), (by first | rfl | (simp; done) | (simp [*]; done)), H', ⟨by first | omega | exact Nat.le_refl _⟩, ⟨by (with_reducible repeat (first | apply Kd.R_alloc | apply Kd.R_drewN | apply Kd.R_drew)); exact Kd.R_mono HO294.out (fun _ hk => trivial)⟩, ⟨by repeat (first | (with_reducible first | exact HB.out | apply below_alloc | apply pw_below_drewN | apply below_drew1) | exact HB.out)⟩⟩
        · rw [if_neg c20] at H
          have c20b0 : (t297 == 0) = false := beq_eq_false_iff_ne.mpr c20
          have c20b1 : (t297 != 0) = true := bne_iff_ne.mpr c20
          (first | rw [c20b0] | (simp only [i64_w, i32_w]; rw [c20b0]) | skip)
          have H' := Aside0.mk H
          clear H
          go_wp2
          go_meet
          case rel => exact ⟨_, (true), (by first | rfl | (simp; done) | (simp [*]; done)), H', ⟨by first | omega | exact Nat.le_refl _⟩, ⟨by (with_reducible repeat (first | apply Kd.R_alloc | apply Kd.R_drewN | apply Kd.R_drew)); exact Kd.R_mono HO294.out (fun _ hk => trivial)⟩, ⟨by repeat (first | (with_reducible first | exact HB.out | apply below_alloc | apply pw_below_drewN | apply below_drew1) | exact HB.out)⟩⟩
      case rest =>
        clear HC11
        try clear c1
        try clear c2
        try clear p2
        try clear c3
        try clear c5
        try clear c9
        try clear c10
        try clear c15
        try clear c19
        try clear c20
        try clear c20b0
        try clear c20b1
        try clear c21
        try clear c21b0
        try clear c21b1
        obtain ⟨kq, x51_10, rfl, HA, HJ10, HO_7, HB⟩ := hcut
        cases kq with
        | zero => exact absurd HA.out (by simp [cressetlaw01_CodecBack.j0])
        | succ kj10 =>
          have H := HA.out
          clear HA
          simp only [cressetlaw01_CodecBack.j0] at H
          by_cases c22 : x51_10 = true
          · subst c22
            have H1 : (some false) = some true := by rw [if_pos rfl] at H; first | done | exact H
            clear H
            have H := H1
            clear H1
            exact absurd H (by simp)
          · replace c22 := Bool.eq_false_iff.mpr c22
            subst c22
            have H1 : (if 0 ≤ (t283.length : Int) then (if (t283.length : Int) ≤ (y292.length : Int) then ((codec_Text.f kj10 (y292.drop ((t283.length : Int) : Int).toNat)).bind fun bt302 => (if bt302.2.2 = 0 then (if bt302.1.toList = a1.toList then (if (wrap64 ((t283.length : Int) + bt302.2.1)) = (t286.length : Int) then (if 0 ≤ (t286.length : Int) then (if (t286.length : Int) ≤ (y292.length : Int) then ((codec_Flag.f kj10 (y292.drop ((t286.length : Int) : Int).toNat)).bind fun bt309 => (if bt309.2.2 = 0 then (if (bt309.1 == (decide (a0 > 0))) = true then (some (bt309.2.1 == 1)) else (some false)) else (some false))) else (none)) else (none)) else (some false)) else (some false)) else (some false))) else (none)) else (none)) = some true := by rw [if_neg (show ¬ (false = true) by decide)] at H; first | done | exact H
            clear H
            have H := H1
            clear H1
            by_cases c23 : 0 ≤ (t283.length : Int)
            · rw [if_pos c23] at H
              have c23b0 := eq_true c23
              have c23b1 : decide (0 ≤ (t283.length : Int)) = true := decide_eq_true c23
              clear c23
              by_cases c24 : (t283.length : Int) ≤ (y292.length : Int)
              · rw [if_pos c24] at H
                have c24b0 := eq_true c24
                have c24b1 : decide ((t283.length : Int) ≤ (y292.length : Int)) = true := decide_eq_true c24
                clear c24
                obtain ⟨y298, hy298⟩ : ∃ y_ : List Int, y_ = (y292.drop ((t283.length : Int) : Int).toNat) := ⟨_, rfl⟩
                replace H : ((codec_Text.f kj10 y298).bind fun bt302 => (if bt302.2.2 = 0 then (if bt302.1.toList = a1.toList then (if (wrap64 ((t283.length : Int) + bt302.2.1)) = (t286.length : Int) then (if 0 ≤ (t286.length : Int) then (if (t286.length : Int) ≤ (y292.length : Int) then ((codec_Flag.f kj10 (y292.drop ((t286.length : Int) : Int).toNat)).bind fun bt309 => (if bt309.2.2 = 0 then (if (bt309.1 == (decide (a0 > 0))) = true then (some (bt309.2.1 == 1)) else (some false)) else (some false))) else (none)) else (none)) else (some false)) else (some false)) else (some false))) = some true := by first | (rw [hy298]; with_reducible exact H) | (have H2_ := (Option.bind_some _ _).symm.trans H; rw [hy298]; with_reducible exact H2_) | (have H2_ := (Option.bind_some _ _).symm.trans H; with_reducible exact H2_) | with_reducible exact H | (rw [hy298]; exact H) | exact H
                have Ny298 := Aside0.mk hy298
                clear hy298
                replace H := Option.bind_eq_some_iff.mp H
                obtain ⟨⟨t302, t303, t304⟩, A250, H⟩ := H
                replace H : (if t304 = 0 then (if t302.toList = a1.toList then (if (wrap64 ((t283.length : Int) + t303)) = (t286.length : Int) then (if 0 ≤ (t286.length : Int) then (if (t286.length : Int) ≤ (y292.length : Int) then ((codec_Flag.f kj10 (y292.drop ((t286.length : Int) : Int).toNat)).bind fun bt309 => (if bt309.2.2 = 0 then (if (bt309.1 == (decide (a0 > 0))) = true then (some (bt309.2.1 == 1)) else (some false)) else (some false))) else (none)) else (none)) else (some false)) else (some false)) else (some false)) = some true := H
                have A25 := Aside0.mk A250
                clear A250
                by_cases c26 : t304 = 0
                · rw [if_pos c26] at H
                  have c26b0 : (t304 == 0) = true := beq_iff_eq.mpr c26
                  have c26b1 : (t304 != 0) = false := bne_eq_false_iff_eq.mpr c26
                  clear c26
                  by_cases c27 : t302.toList = a1.toList
                  · rw [if_pos c27] at H
                    have c27b0 : (t302.toList == a1.toList) = true := beq_iff_eq.mpr c27
                    have c27b1 : (t302.toList != a1.toList) = false := bne_eq_false_iff_eq.mpr c27
                    clear c27
                    by_cases c28 : (wrap64 ((t283.length : Int) + t303)) = (t286.length : Int)
                    · rw [if_pos c28] at H
                      have c28b0 : ((wrap64 ((t283.length : Int) + t303)) == (t286.length : Int)) = true := beq_iff_eq.mpr c28
                      have c28b1 : ((wrap64 ((t283.length : Int) + t303)) != (t286.length : Int)) = false := bne_eq_false_iff_eq.mpr c28
                      clear c28
                      by_cases c29 : 0 ≤ (t286.length : Int)
                      · rw [if_pos c29] at H
                        have c29b0 := eq_true c29
                        have c29b1 : decide (0 ≤ (t286.length : Int)) = true := decide_eq_true c29
                        clear c29
                        by_cases c30 : (t286.length : Int) ≤ (y292.length : Int)
                        · rw [if_pos c30] at H
                          have c30b0 := eq_true c30
                          have c30b1 : decide ((t286.length : Int) ≤ (y292.length : Int)) = true := decide_eq_true c30
                          clear c30
                          obtain ⟨y305, hy305⟩ : ∃ y_ : List Int, y_ = (y292.drop ((t286.length : Int) : Int).toNat) := ⟨_, rfl⟩
                          replace H : ((codec_Flag.f kj10 y305).bind fun bt309 => (if bt309.2.2 = 0 then (if (bt309.1 == (decide (a0 > 0))) = true then (some (bt309.2.1 == 1)) else (some false)) else (some false))) = some true := by first | (rw [hy305]; with_reducible exact H) | (have H2_ := (Option.bind_some _ _).symm.trans H; rw [hy305]; with_reducible exact H2_) | (have H2_ := (Option.bind_some _ _).symm.trans H; with_reducible exact H2_) | with_reducible exact H | (rw [hy305]; exact H) | exact H
                          have Ny305 := Aside0.mk hy305
                          clear hy305
                          replace H := Option.bind_eq_some_iff.mp H
                          obtain ⟨⟨t309, t310, t311⟩, A310, H⟩ := H
                          replace H : (if t311 = 0 then (if (t309 == (decide (a0 > 0))) = true then (some (t310 == 1)) else (some false)) else (some false)) = some true := H
                          have A31 := Aside0.mk A310
                          clear A310
                          by_cases c32 : t311 = 0
                          · rw [if_pos c32] at H
                            have c32b0 : (t311 == 0) = true := beq_iff_eq.mpr c32
                            have c32b1 : (t311 != 0) = false := bne_eq_false_iff_eq.mpr c32
                            clear c32
                            by_cases c33 : (t309 == (decide (a0 > 0))) = true
                            · rw [if_pos c33] at H
                              have c33b0 : (t309 == (decide (a0 > 0))) = true := c33
                              (try (have c33b1 : decide (t309 = (decide (a0 > 0))) = true := by simpa using c33))
                              (try (have c33b2 : (t309 == (decide (a0 > 0))) = true := by simpa using c33))
                              clear c33
                              have HRT := Aside0.mk (Option.some.inj H)
                              clear H
                              have q34 : ((t283.length : Int) : Int) ≤ ((y292.length : Int) : Int) := of_decide_eq_true (by first | (with_reducible assumption) | assumption)
                              obtain ⟨i034, hi034, _, hsz34, _⟩ := info_parts info5
                              have hroom34 : y292.length ≤ co19 := (Kd.R_reads' HO_7.out).2.1
                              have hC34 : Kd.C (Kd.int .u8) _ Ao19 y292.length y292 := (Kd.R_reads' HO_7.out).2.2
                              have q034 : (0 : Int) ≤ ((t283.length : Int) : Int) := of_decide_eq_true (by first | (with_reducible assumption) | assumption)
                              have hcut34 := cut_from (P := Try.prog) 23 5 .i64 Try.underlying23 hi034 1 hsz34 Ao19 y292.length co19 (t283.length : Int) q034 q34
                              have hr34 := Kd.C_drop (m := ((t283.length : Int) : Int).toNat) (c := co19) hC34 (by omega) hroom34
                              obtain ⟨A34, hA34⟩ : ∃ A1, A1 = (if co19 = ((t283.length : Int) : Int).toNat then Ao19 else (Ao19 : Option Addr).map (·.add (((t283.length : Int) : Int).toNat * 1))) := ⟨_, rfl⟩
                              obtain ⟨c34, hc34⟩ : ∃ c1, c1 = co19 - ((t283.length : Int) : Int).toNat := ⟨_, rfl⟩
                              have hy34 : y298.length = y292.length - ((t283.length : Int) : Int).toNat := (by rw [Ny298.out, List.length_drop] <;> omega)
                              rw [show (y292).drop ((t283.length : Int) : Int).toNat = y298 from Ny298.out.symm] at hr34
                              replace hr34 : Kd.C (Kd.int .u8) _ A34 y298.length y298 := (by rw [hA34]; exact hr34)
                              rw [← hy34, ← hA34, ← hc34] at hcut34
                              have HR301 := Aside0.mk hr34
                              have HC301 := Aside0.mk (show y298.length ≤ c34 from by rw [hy34, hc34]; exact Nat.sub_le_sub_right hroom34 _)
                              clear hr34 hC34 hroom34 hi034 hsz34 hc34
                              have KY34 := Aside0.mk hy34
                              have KA34 := Aside0.mk hA34
                              clear hy34 hA34
                              have KL34 := Aside0.mk (show ((t283.length : Int) : Int).toNat ≤ y292.length from by omega)
                              replace q34 := eq_true q34
                              go_wp2_with (first | ((with_reducible refine gate_callee (f := 26) rfl ?_); refine goesL_ (some 56) rfl rfl Try.func26 (by kernel_rfl) rfl #[.slice A34 y298.length c34] rfl (by (try simp only [List.map_toArray, List.map_cons, List.map_nil]); first | done | rfl | (simp only [List.length_drop, List.length_take]; rfl)) ?_; (with_reducible refine (codec_Text.calls kj10 _ _ y298 t302 t303 t304 _ ?side1 ?side2 A25.out).mono ?_); (case side1 => repeat (first | exact (by repeat (first | (with_reducible exact HR301.out) | (with_reducible refine Kd.C_alloc ?_ _) | (with_reducible refine Kd.C_drewN ?_ _) | (with_reducible refine Kd.C_drew ?_) | exact HR301.out)) | (with_reducible refine Kd.C_alloc ?_ _) | (with_reducible refine Kd.C_drewN ?_ _) | (with_reducible refine Kd.C_drew ?_))); (case side2 => exact HC301.out); rintro e w' ⟨rfl, ⟨nd, rfl⟩⟩; refine ⟨_, rfl, ?_⟩; have q35 : ((t286.length : Int) : Int) ≤ ((y292.length : Int) : Int) := of_decide_eq_true (by first | (with_reducible assumption) | assumption); obtain ⟨i035, hi035, _, hsz35, _⟩ := info_parts info5; have hroom35 : y292.length ≤ co19 := (Kd.R_reads' HO_7.out).2.1; have hC35 : Kd.C (Kd.int .u8) _ Ao19 y292.length y292 := (Kd.R_reads' HO_7.out).2.2; have q035 : (0 : Int) ≤ ((t286.length : Int) : Int) := of_decide_eq_true (by first | (with_reducible assumption) | assumption); have hcut35 := cut_from (P := Try.prog) 23 5 .i64 Try.underlying23 hi035 1 hsz35 Ao19 y292.length co19 (t286.length : Int) q035 q35; have hr35 := Kd.C_drop (m := ((t286.length : Int) : Int).toNat) (c := co19) hC35 (by omega) hroom35; obtain ⟨A35, hA35⟩ : ∃ A1, A1 = (if co19 = ((t286.length : Int) : Int).toNat then Ao19 else (Ao19 : Option Addr).map (·.add (((t286.length : Int) : Int).toNat * 1))) := ⟨_, rfl⟩; obtain ⟨c35, hc35⟩ : ∃ c1, c1 = co19 - ((t286.length : Int) : Int).toNat := ⟨_, rfl⟩; have hy35 : y305.length = y292.length - ((t286.length : Int) : Int).toNat := (by rw [Ny305.out, List.length_drop] <;> omega); rw [show (y292).drop ((t286.length : Int) : Int).toNat = y305 from Ny305.out.symm] at hr35; replace hr35 : Kd.C (Kd.int .u8) _ A35 y305.length y305 := (by rw [hA35]; exact hr35); rw [← hy35, ← hA35, ← hc35] at hcut35; have HR308 := Aside0.mk hr35; have HC308 := Aside0.mk (show y305.length ≤ c35 from by rw [hy35, hc35]; exact Nat.sub_le_sub_right hroom35 _); clear hr35 hC35 hroom35 hi035 hsz35 hc35; have KY35 := Aside0.mk hy35; have KA35 := Aside0.mk hA35; clear hy35 hA35; have KL35 := Aside0.mk (show ((t286.length : Int) : Int).toNat ≤ y292.length from by omega); replace q35 := eq_true q35) | ((with_reducible refine gate_callee (f := 31) rfl ?_); refine goesL_ (some 78) rfl rfl Try.func31 (by kernel_rfl) rfl #[.slice A35 y305.length c35] rfl (by (try simp only [List.map_toArray, List.map_cons, List.map_nil]); first | done | rfl | (simp only [List.length_drop, List.length_take]; rfl)) ?_; (with_reducible refine (codec_Flag.calls kj10 _ _ y305 t309 t310 t311 _ ?side1 ?side2 A31.out).mono ?_); (case side1 => repeat (first | exact (by repeat (first | (with_reducible exact HR308.out) | (with_reducible refine Kd.C_alloc ?_ _) | (with_reducible refine Kd.C_drewN ?_ _) | (with_reducible refine Kd.C_drew ?_) | exact HR308.out)) | (with_reducible refine Kd.C_alloc ?_ _) | (with_reducible refine Kd.C_drewN ?_ _) | (with_reducible refine Kd.C_drew ?_))); (case side2 => exact HC308.out); rintro e w' ⟨rfl, ⟨nd, rfl⟩⟩; refine ⟨_, rfl, ?_⟩))
                              go_ret
                              exact ⟨by first | exact congrArg (fun b_ => Ending.returned (.bool b_)) HRT.out | rfl | (simp [errW_none, errW_some] <;> rfl) | (simp [*, errW_none, errW_some] <;> rfl), by repeat (first | (with_reducible first | exact HB.out | apply below_alloc | apply pw_below_drewN | apply below_drew1) | exact HB.out)⟩
                            · rw [if_neg c33] at H
                              have c33b0 : (t309 == (decide (a0 > 0))) = false := by simpa using c33
                              (try (have c33b1 : decide (t309 = (decide (a0 > 0))) = false := by simpa using c33))
                              (try (have c33b2 : (t309 == (decide (a0 > 0))) = false := by simpa using c33))
                              (try (have c33b3 : ¬ (t309 = (decide (a0 > 0))) := by simpa using c33))
                              clear c33
                              exact absurd H (by simp)
                          · rw [if_neg c32] at H
                            have c32b0 : (t311 == 0) = false := beq_eq_false_iff_ne.mpr c32
                            have c32b1 : (t311 != 0) = true := bne_iff_ne.mpr c32
                            exact absurd H (by simp)
                        · rw [if_neg c30] at H
                          exact absurd H (by simp)
                      · rw [if_neg c29] at H
                        exact absurd H (by simp)
                    · rw [if_neg c28] at H
                      have c28b0 : ((wrap64 ((t283.length : Int) + t303)) == (t286.length : Int)) = false := beq_eq_false_iff_ne.mpr c28
                      have c28b1 : ((wrap64 ((t283.length : Int) + t303)) != (t286.length : Int)) = true := bne_iff_ne.mpr c28
                      exact absurd H (by simp)
                  · rw [if_neg c27] at H
                    have c27b0 : (t302.toList == a1.toList) = false := beq_eq_false_iff_ne.mpr c27
                    have c27b1 : (t302.toList != a1.toList) = true := bne_iff_ne.mpr c27
                    exact absurd H (by simp)
                · rw [if_neg c26] at H
                  have c26b0 : (t304 == 0) = false := beq_eq_false_iff_ne.mpr c26
                  have c26b1 : (t304 != 0) = true := bne_iff_ne.mpr c26
                  exact absurd H (by simp)
              · rw [if_neg c24] at H
                exact absurd H (by simp)
            · rw [if_neg c23] at H
              exact absurd H (by simp)
    · rw [if_neg c9] at H
      exact absurd H (by simp)
  · replace c5 := Bool.eq_false_iff.mpr c5
    subst c5
    have H1 : (some false) = some true := by rw [if_neg (show ¬ (false = true) by decide)] at H; first | done | exact H
    clear H
    have H := H1
    clear H1
    exact absurd H (by simp)

/-- THE ONE PURE STATEMENT of cressetlaw01_CodecBack: yours. -/
def cressetlaw01_CodecBack.Pure : Prop := ∀ (a0 : Int) (a1 : ByteArray) (l2 : List Int), (Lit.int .i64 a0).wf = true → a1.size ≤ 140737488351232 → (l2.length ≤ maxLen ∧ l2.length * 1 ≤ 140737488351232 ∧ ∀ x_ ∈ l2, (Lit.int .u8 x_).wf = true) → (1) + (((a1.size + 1)) + (((l2.map (fun _ => 1)).sum + 1))) ≤ 1048576 → ∃ k, cressetlaw01_CodecBack.f k a0 a1 l2 = some true
theorem cressetlaw01_CodecBack.walk (P : cressetlaw01_CodecBack.Pure) (a0 : Int) (a1 : ByteArray) (A2 : Option Addr) (c2 : Nat) (l2 : List Int) (w : World) (hr2 : Kd.C (Kd.int .u8) w A2 l2.length l2) (hc2 : l2.length ≤ c2) (w0 : (Lit.int .i64 a0).wf = true) (w1 : a1.size ≤ 140737488351232) (w2 : (l2.length ≤ maxLen ∧ l2.length * 1 ≤ 140737488351232 ∧ ∀ x_ ∈ l2, (Lit.int .u8 x_).wf = true)) (hU : (1) + (((a1.size + 1)) + (((l2.map (fun _ => 1)).sum + 1))) ≤ 1048576) :
    Calls Try.prog 10 #[.int .i64 a0, .string a1, .slice A2 l2.length c2] w fun e w' => e = .returned (.bool true) ∧ Below w.heap.size w w' := by
  obtain ⟨k, h⟩ := P a0 a1 l2 w0 w1 w2 hU
  refine (cressetlaw01_CodecBack.calls k a0 a1 A2 c2 l2 w hr2 hc2 h).mono ?_
  rintro e w' ⟨rfl, hd⟩
  exact ⟨rfl, hd⟩

end Go.Proofs.Ytphdinelioendaa.B

-- Written by a program of this session (wip/print2) out of Lean's print of the translation. Not trusted: Lean checks it.
import Derived.Test.YtphdinelioendaaBx0
import Derived.Test.YtphdinelioendaaBx1
import Derived.Test.YtphdinelioendaaBx2
import Derived.Test.YtphdinelioendaaBx7
namespace Go.Proofs.Ytphdinelioendaa.B
open Go.RowKit Go.Proofs.YtphdinelioendaaW.PrintWords Go.Proofs.YtphdinelioendaaW.PrintLast Go.Proofs.YtphdinelioendaaW.PrintMore Go.Proofs.YtphdinelioendaaW.Mine
attribute [local go_sem] max2_int min2_int max_two min_two max_three min_three max_four min_four str_gtr str_leq str_geq str_max str_min   -- for this text's walks alone
set_option linter.unusedVariables false
set_option linter.unusedSimpArgs false

/-! ### cressetlaw01_CodecHeads: function 7 -/
def cressetlaw01_CodecHeads.j0 : Nat → Int → List Int → List Int → Bool → Option (Bool)
  | 0, _, _, _, _ => none
  | k + 1, x2, x7, x8, x28 => if x28 = true then (some false) else (if (x7.length : Int) = 0 then (none) else (if 0 ≤ (Int.tmod (wrap64 (x2)) (x7.length : Int)) then (if (Int.tmod (wrap64 (x2)) (x7.length : Int)) ≤ (x7.length : Int) then ((codec_Int.f k (x7.take ((Int.tmod (wrap64 (x2)) (x7.length : Int)) : Int).toNat)).bind fun bt230 => (if (x8.length : Int) = 0 then (none) else (if 0 ≤ (Int.tmod (wrap64 (x2)) (x8.length : Int)) then (if (Int.tmod (wrap64 (x2)) (x8.length : Int)) ≤ (x8.length : Int) then ((codec_Text.f k (x8.take ((Int.tmod (wrap64 (x2)) (x8.length : Int)) : Int).toNat)).bind fun bt237 => (if bt230.2.2 = 10 then (some (bt237.2.2 == 10)) else (some false))) else (none)) else (none)))) else (none)) else (none)))
def cressetlaw01_CodecHeads.f (k : Nat) (a0 : Int) (a1 : ByteArray) (a2 : Int) : Option (Bool) := (cressetlaw01_live.f k).bind fun t219 => (if t219 = true then ((codec_PutInt.f k ([] : List Int) a0).bind fun t220 => ((codec_PutText.f k ([] : List Int) a1).bind fun t223 => (if (t220.length : Int) = 0 then (cressetlaw01_CodecHeads.j0 k a2 t220 t223 true) else (cressetlaw01_CodecHeads.j0 k a2 t220 t223 ((t223.length : Int) == 0))))) else (some false))
theorem cressetlaw01_CodecHeads.mono_l : ∀ k, (∀ y0 y1 y2 y3, LeO (cressetlaw01_CodecHeads.j0 k y0 y1 y2 y3) (cressetlaw01_CodecHeads.j0 (k + 1) y0 y1 y2 y3))
  | 0 => fun _ _ _ _ r h => by simp [cressetlaw01_CodecHeads.j0] at h
  | k + 1 => by
    have ih0 := cressetlaw01_CodecHeads.mono_l k
    · intro y0 y1 y2 y3
      unfold cressetlaw01_CodecHeads.j0
      repeat' first
      | (with_reducible exact ih0 _ _ _ _)
      | (with_reducible exact codec_Int.mono _ _)
      | (with_reducible exact codec_PutInt.mono _ _ _)
      | (with_reducible exact codec_PutText.mono _ _ _)
      | (with_reducible exact codec_Text.mono _ _)
      | (with_reducible exact cressetlaw01_live.mono _)
      | (with_reducible exact LeO.refl _)
      | (with_reducible exact LeO.none _)
      | (with_reducible refine LeO.ite ?_ ?_)
      | (with_reducible refine LeO.bind ?_ (fun _ => ?_))
      | exact ih0 _ _ _ _
      | exact codec_Int.mono _ _
      | exact codec_PutInt.mono _ _ _
      | exact codec_PutText.mono _ _ _
      | exact codec_Text.mono _ _
      | exact cressetlaw01_live.mono _
      | exact LeO.none _
      | refine LeO.ite ?_ ?_
      | refine LeO.bind ?_ (fun _ => ?_)
theorem cressetlaw01_CodecHeads.mono : ∀ a0 a1 a2 k, LeO (cressetlaw01_CodecHeads.f k a0 a1 a2) (cressetlaw01_CodecHeads.f (k + 1) a0 a1 a2) := by
  intro a0 a1 a2 k
  have ih0 := cressetlaw01_CodecHeads.mono_l k
  unfold cressetlaw01_CodecHeads.f
  repeat' first
      | (with_reducible exact ih0 _ _ _ _)
      | (with_reducible exact codec_Int.mono _ _)
      | (with_reducible exact codec_PutInt.mono _ _ _)
      | (with_reducible exact codec_PutText.mono _ _ _)
      | (with_reducible exact codec_Text.mono _ _)
      | (with_reducible exact cressetlaw01_live.mono _)
      | (with_reducible exact LeO.refl _)
      | (with_reducible exact LeO.none _)
      | (with_reducible refine LeO.ite ?_ ?_)
      | (with_reducible refine LeO.bind ?_ (fun _ => ?_))
      | exact ih0 _ _ _ _
      | exact codec_Int.mono _ _
      | exact codec_PutInt.mono _ _ _
      | exact codec_PutText.mono _ _ _
      | exact codec_Text.mono _ _
      | exact cressetlaw01_live.mono _
      | exact LeO.none _
      | refine LeO.ite ?_ ?_
      | refine LeO.bind ?_ (fun _ => ?_)
set_option maxHeartbeats 8000000 in
set_option maxRecDepth 100000 in
theorem cressetlaw01_CodecHeads.calls (k : Nat) (a0 : Int) (a1 : ByteArray) (a2 : Int) (w : World) (h : cressetlaw01_CodecHeads.f k a0 a1 a2 = some true) :
    Calls Try.prog 7 #[.int .i64 a0, .string a1, .int .u16 a2] w fun e w' => e = .returned (.bool true) ∧ Below w.heap.size w w' := by
  have HB := Aside0.mk (Below.refl w.heap.size w)
  have H : ((cressetlaw01_live.f k).bind fun t219 => (if t219 = true then ((codec_PutInt.f k ([] : List Int) a0).bind fun t220 => ((codec_PutText.f k ([] : List Int) a1).bind fun t223 => (if (t220.length : Int) = 0 then (cressetlaw01_CodecHeads.j0 k a2 t220 t223 true) else (cressetlaw01_CodecHeads.j0 k a2 t220 t223 ((t223.length : Int) == 0))))) else (some false))) = some true := h
  clear h
  replace H := Option.bind_eq_some_iff.mp H
  obtain ⟨t219, A40, H⟩ := H
  replace H : (if t219 = true then ((codec_PutInt.f k ([] : List Int) a0).bind fun t220 => ((codec_PutText.f k ([] : List Int) a1).bind fun t223 => (if (t220.length : Int) = 0 then (cressetlaw01_CodecHeads.j0 k a2 t220 t223 true) else (cressetlaw01_CodecHeads.j0 k a2 t220 t223 ((t223.length : Int) == 0))))) else (some false)) = some true := H
  have A4 := Aside0.mk A40
  clear A40
  by_cases c5 : t219 = true
  · subst c5
    have H1 : ((codec_PutInt.f k ([] : List Int) a0).bind fun t220 => ((codec_PutText.f k ([] : List Int) a1).bind fun t223 => (if (t220.length : Int) = 0 then (cressetlaw01_CodecHeads.j0 k a2 t220 t223 true) else (cressetlaw01_CodecHeads.j0 k a2 t220 t223 ((t223.length : Int) == 0))))) = some true := by rw [if_pos rfl] at H; first | done | exact H
    clear H
    have H := H1
    clear H1
    replace H := Option.bind_eq_some_iff.mp H
    obtain ⟨t220, A60, H⟩ := H
    replace H : ((codec_PutText.f k ([] : List Int) a1).bind fun t223 => (if (t220.length : Int) = 0 then (cressetlaw01_CodecHeads.j0 k a2 t220 t223 true) else (cressetlaw01_CodecHeads.j0 k a2 t220 t223 ((t223.length : Int) == 0)))) = some true := H
    have A6 := Aside0.mk A60
    clear A60
    replace H := Option.bind_eq_some_iff.mp H
    obtain ⟨t223, A70, H⟩ := H
    replace H : (if (t220.length : Int) = 0 then (cressetlaw01_CodecHeads.j0 k a2 t220 t223 true) else (cressetlaw01_CodecHeads.j0 k a2 t220 t223 ((t223.length : Int) == 0))) = some true := H
    have A7 := Aside0.mk A70
    clear A70
    have HC8 := Aside0.mk H
    clear H
    go_enter Try.func7, Try.ntmps7
    go_upto_region 4 with (first | ((with_reducible refine gate_callee (f := 15) rfl ?_); refine goesL_ (some 15) rfl rfl Try.func15 (by kernel_rfl) rfl #[] rfl (by (try simp only [List.map_toArray, List.map_cons, List.map_nil]); first | done | rfl | (simp only [List.length_drop, List.length_take]; rfl)) ?_; (with_reducible refine (cressetlaw01_live.calls k  true _ A4.out).mono ?_); rintro e w9 ⟨rfl, hb⟩; refine ⟨_, rfl, ?_⟩; have n0_ := Aside0.mk (below_step (by repeat (first | (with_reducible first | exact HB.out | apply below_alloc | apply pw_below_drewN | apply below_drew1) | exact HB.out)) hb); clear HB; have HB := n0_; clear n0_; (try clear hb); (try clear hb2); (try clear hk); (try clear hi)) | ((with_reducible refine gate_callee (f := 22) rfl ?_); refine goesL_ (some 18) rfl rfl Try.func22 (by kernel_rfl) rfl #[.slice none 0 0, .int .i64 a0] rfl (by (try simp only [List.map_toArray, List.map_cons, List.map_nil]); first | done | rfl | (simp only [List.length_drop, List.length_take]; rfl)) ?_; (refine (codec_PutInt.calls k _ _ ([] : List Int) a0 t220 _ ?side1 ?side2 A6.out).mono ?_); (case side1 => exact Kd.C_nil _ _); (case side2 => exact Nat.le_refl _); rintro e w10 ⟨v221, rfl, ho0, hb⟩; refine ⟨_, rfl, ?_⟩; have n0_ := Aside0.mk (Kd.R_lower ho0 (below_size (by repeat (first | (with_reducible first | exact HB.out | apply below_alloc | apply pw_below_drewN | apply below_drew1) | exact HB.out)))); have n1_ := Aside0.mk (below_step (by repeat (first | (with_reducible first | exact HB.out | apply below_alloc | apply pw_below_drewN | apply below_drew1) | exact HB.out)) hb); clear HB; have HO222 := n0_; have HB := n1_; clear n0_ n1_; (try clear hb); (try clear hb2); (try clear hk); (try clear hi); (try clear ho0)) | ((with_reducible refine gate_callee (f := 27) rfl ?_); refine goesL_ (some 20) rfl rfl Try.func27 (by kernel_rfl) rfl #[.slice none 0 0, .string a1] rfl (by (try simp only [List.map_toArray, List.map_cons, List.map_nil]); first | done | rfl | (simp only [List.length_drop, List.length_take]; rfl)) ?_; (refine (codec_PutText.calls k _ _ ([] : List Int) a1 t223 _ ?side1 ?side2 A7.out).mono ?_); (case side1 => exact Kd.C_nil _ _); (case side2 => exact Nat.le_refl _); rintro e w11 ⟨v224, rfl, ho0, hb⟩; refine ⟨_, rfl, ?_⟩; have n0_ := Aside0.mk (Kd.R_elder' (by (with_reducible repeat (first | apply Kd.R_alloc | apply Kd.R_drewN | apply Kd.R_drew)); exact HO222.out) (Kd.R_base ho0) hb); have n1_ := Aside0.mk (Kd.R_lower (Kd.R_new' ho0 (Kd.R_lt (by (with_reducible repeat (first | apply Kd.R_alloc | apply Kd.R_drewN | apply Kd.R_drew)); exact HO222.out))) (below_size (by repeat (first | (with_reducible first | exact HB.out | apply below_alloc | apply pw_below_drewN | apply below_drew1) | exact HB.out)))); have n2_ := Aside0.mk (below_step (by repeat (first | (with_reducible first | exact HB.out | apply below_alloc | apply pw_below_drewN | apply below_drew1) | exact HB.out)) hb); clear HO222; clear HB; have HO222 := n0_; have HO225 := n1_; have HB := n2_; clear n0_ n1_ n2_; (try clear hb); (try clear hb2); (try clear hk); (try clear hi); (try clear ho0)))
    (try simp only [Act.put, List.setIfInBounds_toArray, List.set_cons_zero, List.set_cons_succ])
    go_cut [28] (fun v28 wc => ∃ (kq : Nat) (x28_7 : Bool), v28 = .bool x28_7 ∧ Aside0 (cressetlaw01_CodecHeads.j0 kq a2 t220 t223 x28_7 = some true) ∧ Aside0 (kq ≤ k) ∧ Aside0 (Kd.R (Kd.int .u8) 5 wc w.heap.size (fun k_ => some k_ ≠ (v224 : Value).ownBlock) v221 t220) ∧ Aside0 (Kd.R (Kd.int .u8) 5 wc w.heap.size (fun k_ => some k_ ≠ (v221 : Value).ownBlock) v224 t223) ∧ Aside0 (Below w.heap.size w wc))
    case first =>
      have H := HC8.out
      clear HC8
      by_cases c12 : (t220.length : Int) = 0
      · rw [if_pos c12] at H
        have c12b0 : ((t220.length : Int) == 0) = true := beq_iff_eq.mpr c12
        have c12b1 : ((t220.length : Int) != 0) = false := bne_eq_false_iff_eq.mpr c12
        clear c12
        (first | rw [c12b0] | (simp only [i64_w, i32_w]; rw [c12b0]) | skip)
        have H' := Aside0.mk H
        clear H
        obtain ⟨Ao13, co13, eo13⟩ := Kd.R_slice HO222.out
        subst eo13
        go_wp2
        go_meet
        case rel => exact ⟨_, (true), (by first | rfl | (simp; done) | (simp [*]; done)), H', ⟨by first | omega | exact Nat.le_refl _⟩, ⟨by (with_reducible repeat (first | apply Kd.R_alloc | apply Kd.R_drewN | apply Kd.R_drew)); exact Kd.R_mono HO222.out (fun _ hk => hk.2)⟩, ⟨by (with_reducible repeat (first | apply Kd.R_alloc | apply Kd.R_drewN | apply Kd.R_drew)); exact Kd.R_mono HO225.out (fun _ hk => hk.2)⟩, ⟨by repeat (first | (with_reducible first | exact HB.out | apply below_alloc | apply pw_below_drewN | apply below_drew1) | exact HB.out)⟩⟩
      · rw [if_neg c12] at H
        have c12b0 : ((t220.length : Int) == 0) = false := beq_eq_false_iff_ne.mpr c12
        have c12b1 : ((t220.length : Int) != 0) = true := bne_iff_ne.mpr c12
        have c12b2 : ¬ (t220 = []) := fun h_ => c12 (by rw [h_]; rfl)
        (first | rw [c12b0] | (simp only [i64_w, i32_w]; rw [c12b0]) | skip)
        have H' := Aside0.mk H
        clear H
        obtain ⟨Ao14, co14, eo14⟩ := Kd.R_slice HO222.out
        subst eo14
        obtain ⟨Ao15, co15, eo15⟩ := Kd.R_slice HO225.out
        subst eo15
        go_wp2
        go_meet
        case rel => exact ⟨_, (((t223.length : Int) == 0)), (by first | rfl | (simp; done) | (simp [*]; done)), H', ⟨by first | omega | exact Nat.le_refl _⟩, ⟨by (with_reducible repeat (first | apply Kd.R_alloc | apply Kd.R_drewN | apply Kd.R_drew)); exact Kd.R_mono HO222.out (fun _ hk => hk.2)⟩, ⟨by (with_reducible repeat (first | apply Kd.R_alloc | apply Kd.R_drewN | apply Kd.R_drew)); exact Kd.R_mono HO225.out (fun _ hk => hk.2)⟩, ⟨by repeat (first | (with_reducible first | exact HB.out | apply below_alloc | apply pw_below_drewN | apply below_drew1) | exact HB.out)⟩⟩
    case rest =>
      clear HC8
      try clear c1
      try clear c2
      try clear p2
      try clear c5
      try clear c7
      try clear c12
      try clear c12b0
      try clear c12b1
      try clear c12b2
      try clear c15
      obtain ⟨kq, x28_7, rfl, HA, HJ7, HO_7, HO_8, HB⟩ := hcut
      cases kq with
      | zero => exact absurd HA.out (by simp [cressetlaw01_CodecHeads.j0])
      | succ kj7 =>
        have H := HA.out
        clear HA
        simp only [cressetlaw01_CodecHeads.j0] at H
        by_cases c16 : x28_7 = true
        · subst c16
          have H1 : (some false) = some true := by rw [if_pos rfl] at H; first | done | exact H
          clear H
          have H := H1
          clear H1
          exact absurd H (by simp)
        · replace c16 := Bool.eq_false_iff.mpr c16
          subst c16
          have H1 : (if (t220.length : Int) = 0 then (none) else (if 0 ≤ (Int.tmod (wrap64 (a2)) (t220.length : Int)) then (if (Int.tmod (wrap64 (a2)) (t220.length : Int)) ≤ (t220.length : Int) then ((codec_Int.f kj7 (t220.take ((Int.tmod (wrap64 (a2)) (t220.length : Int)) : Int).toNat)).bind fun bt230 => (if (t223.length : Int) = 0 then (none) else (if 0 ≤ (Int.tmod (wrap64 (a2)) (t223.length : Int)) then (if (Int.tmod (wrap64 (a2)) (t223.length : Int)) ≤ (t223.length : Int) then ((codec_Text.f kj7 (t223.take ((Int.tmod (wrap64 (a2)) (t223.length : Int)) : Int).toNat)).bind fun bt237 => (if bt230.2.2 = 10 then (some (bt237.2.2 == 10)) else (some false))) else (none)) else (none)))) else (none)) else (none))) = some true := by rw [if_neg (show ¬ (false = true) by decide)] at H; first | done | exact H
          clear H
          have H := H1
          clear H1
          by_cases c17 : (t220.length : Int) = 0
          · rw [if_pos c17] at H
            exact absurd H (by simp)
          · rw [if_neg c17] at H
            have c17b0 : ((t220.length : Int) == 0) = false := beq_eq_false_iff_ne.mpr c17
            have c17b1 : ((t220.length : Int) != 0) = true := bne_iff_ne.mpr c17
            have c17b2 : ¬ (t220 = []) := fun h_ => c17 (by rw [h_]; rfl)
            obtain ⟨ji18, hji18⟩ : ∃ j_ : Int, (Int.tmod (wrap64 (a2)) (t220.length : Int)) = j_ := ⟨_, rfl⟩
            replace H : (if 0 ≤ (ji18) then (if (ji18) ≤ (t220.length : Int) then ((codec_Int.f kj7 (t220.take ((ji18) : Int).toNat)).bind fun bt230 => (if (t223.length : Int) = 0 then (none) else (if 0 ≤ (Int.tmod (wrap64 (a2)) (t223.length : Int)) then (if (Int.tmod (wrap64 (a2)) (t223.length : Int)) ≤ (t223.length : Int) then ((codec_Text.f kj7 (t223.take ((Int.tmod (wrap64 (a2)) (t223.length : Int)) : Int).toNat)).bind fun bt237 => (if bt230.2.2 = 10 then (some (bt237.2.2 == 10)) else (some false))) else (none)) else (none)))) else (none)) else (none)) = some true := by first | (rw [hji18] at H; first | done | exact H) | (simp only [hji18] at H ⊢; exact H)
            by_cases c19 : 0 ≤ (ji18)
            · rw [if_pos c19] at H
              have c19b0 := eq_true c19
              have c19b1 : decide (0 ≤ (ji18)) = true := decide_eq_true c19
              clear c19
              by_cases c20 : (ji18) ≤ (t220.length : Int)
              · rw [if_pos c20] at H
                have c20b0 := eq_true c20
                have c20b1 : decide ((ji18) ≤ (t220.length : Int)) = true := decide_eq_true c20
                clear c20
                obtain ⟨y226, hy226⟩ : ∃ y_ : List Int, y_ = (t220.take ((ji18) : Int).toNat) := ⟨_, rfl⟩
                replace H : ((codec_Int.f kj7 y226).bind fun bt230 => (if (t223.length : Int) = 0 then (none) else (if 0 ≤ (Int.tmod (wrap64 (a2)) (t223.length : Int)) then (if (Int.tmod (wrap64 (a2)) (t223.length : Int)) ≤ (t223.length : Int) then ((codec_Text.f kj7 (t223.take ((Int.tmod (wrap64 (a2)) (t223.length : Int)) : Int).toNat)).bind fun bt237 => (if bt230.2.2 = 10 then (some (bt237.2.2 == 10)) else (some false))) else (none)) else (none)))) = some true := by first | (rw [hy226]; with_reducible exact H) | (have H2_ := (Option.bind_some _ _).symm.trans H; rw [hy226]; with_reducible exact H2_) | (have H2_ := (Option.bind_some _ _).symm.trans H; with_reducible exact H2_) | with_reducible exact H | (rw [hy226]; exact H) | exact H
                have Ny226 := Aside0.mk hy226
                clear hy226
                replace H := Option.bind_eq_some_iff.mp H
                obtain ⟨⟨t230, t231, t232⟩, A210, H⟩ := H
                replace H : (if (t223.length : Int) = 0 then (none) else (if 0 ≤ (Int.tmod (wrap64 (a2)) (t223.length : Int)) then (if (Int.tmod (wrap64 (a2)) (t223.length : Int)) ≤ (t223.length : Int) then ((codec_Text.f kj7 (t223.take ((Int.tmod (wrap64 (a2)) (t223.length : Int)) : Int).toNat)).bind fun bt237 => (if t232 = 10 then (some (bt237.2.2 == 10)) else (some false))) else (none)) else (none))) = some true := H
                have A21 := Aside0.mk A210
                clear A210
                by_cases c22 : (t223.length : Int) = 0
                · rw [if_pos c22] at H
                  exact absurd H (by simp)
                · rw [if_neg c22] at H
                  have c22b0 : ((t223.length : Int) == 0) = false := beq_eq_false_iff_ne.mpr c22
                  have c22b1 : ((t223.length : Int) != 0) = true := bne_iff_ne.mpr c22
                  have c22b2 : ¬ (t223 = []) := fun h_ => c22 (by rw [h_]; rfl)
                  obtain ⟨ji23, hji23⟩ : ∃ j_ : Int, (Int.tmod (wrap64 (a2)) (t223.length : Int)) = j_ := ⟨_, rfl⟩
                  replace H : (if 0 ≤ (ji23) then (if (ji23) ≤ (t223.length : Int) then ((codec_Text.f kj7 (t223.take ((ji23) : Int).toNat)).bind fun bt237 => (if t232 = 10 then (some (bt237.2.2 == 10)) else (some false))) else (none)) else (none)) = some true := by first | (rw [hji23] at H; first | done | exact H) | (simp only [hji23] at H ⊢; exact H)
                  (try rw [hji23] at A21)
                  by_cases c24 : 0 ≤ (ji23)
                  · rw [if_pos c24] at H
                    have c24b0 := eq_true c24
                    have c24b1 : decide (0 ≤ (ji23)) = true := decide_eq_true c24
                    clear c24
                    by_cases c25 : (ji23) ≤ (t223.length : Int)
                    · rw [if_pos c25] at H
                      have c25b0 := eq_true c25
                      have c25b1 : decide ((ji23) ≤ (t223.length : Int)) = true := decide_eq_true c25
                      clear c25
                      obtain ⟨y233, hy233⟩ : ∃ y_ : List Int, y_ = (t223.take ((ji23) : Int).toNat) := ⟨_, rfl⟩
                      replace H : ((codec_Text.f kj7 y233).bind fun bt237 => (if t232 = 10 then (some (bt237.2.2 == 10)) else (some false))) = some true := by first | (rw [hy233]; with_reducible exact H) | (have H2_ := (Option.bind_some _ _).symm.trans H; rw [hy233]; with_reducible exact H2_) | (have H2_ := (Option.bind_some _ _).symm.trans H; with_reducible exact H2_) | with_reducible exact H | (rw [hy233]; exact H) | exact H
                      have Ny233 := Aside0.mk hy233
                      clear hy233
                      replace H := Option.bind_eq_some_iff.mp H
                      obtain ⟨⟨t237, t238, t239⟩, A260, H⟩ := H
                      replace H : (if t232 = 10 then (some (t239 == 10)) else (some false)) = some true := H
                      have A26 := Aside0.mk A260
                      clear A260
                      by_cases c27 : t232 = 10
                      · rw [if_pos c27] at H
                        have c27b0 : (t232 == 10) = true := beq_iff_eq.mpr c27
                        have c27b1 : (t232 != 10) = false := bne_eq_false_iff_eq.mpr c27
                        clear c27
                        have HRT := Aside0.mk (Option.some.inj H)
                        clear H
                        obtain ⟨Ao28, co28, eo28⟩ := Kd.R_slice HO_7.out
                        subst eo28
                        have q29 : ((ji18) : Int) ≤ ((t220.length : Int) : Int) := of_decide_eq_true (by first | (with_reducible assumption) | assumption)
                        obtain ⟨i029, hi029, _, hsz29, _⟩ := info_parts info5
                        have hroom29 : t220.length ≤ co28 := (Kd.R_reads' HO_7.out).2.1
                        have hC29 : Kd.C (Kd.int .u8) _ Ao28 t220.length t220 := (Kd.R_reads' HO_7.out).2.2
                        have hcut29 := cut_to (P := Try.prog) 23 5 .i64 Try.underlying23 hi029 Ao28 t220.length co28 (ji18) (of_decide_eq_true (by first | (with_reducible assumption) | assumption)) q29 hroom29
                        have hr29 := Kd.C_take (m := ((ji18) : Int).toNat) hC29 (by omega)
                        have hy29 : y226.length = ((ji18) : Int).toNat := (by rw [Ny226.out, List.length_take]; omega)
                        rw [← Ny226.out] at hr29
                        rw [← hy29] at hcut29
                        have HR229 := Aside0.mk hr29
                        have HC229 := Aside0.mk (show y226.length ≤ co28 from by omega)
                        clear hr29 hC29 hroom29 hi029 hsz29
                        have KY29 := Aside0.mk hy29
                        clear hy29
                        have KL29 := Aside0.mk (show ((ji18) : Int).toNat ≤ t220.length from by omega)
                        replace q29 := eq_true q29
                        go_wp2_with (first | ((with_reducible refine gate_callee (f := 19) rfl ?_); refine goesL_ (some 37) rfl rfl Try.func19 (by kernel_rfl) rfl #[.slice Ao28 y226.length co28] rfl (by (try simp only [List.map_toArray, List.map_cons, List.map_nil]); first | done | rfl | (simp only [List.length_drop, List.length_take]; rfl)) ?_; (with_reducible refine (codec_Int.calls kj7 _ _ y226 t230 t231 t232 _ ?side1 ?side2 A21.out).mono ?_); (case side1 => repeat (first | exact (by repeat (first | (with_reducible exact HR229.out) | (with_reducible refine Kd.C_alloc ?_ _) | (with_reducible refine Kd.C_drewN ?_ _) | (with_reducible refine Kd.C_drew ?_) | exact HR229.out)) | (with_reducible refine Kd.C_alloc ?_ _) | (with_reducible refine Kd.C_drewN ?_ _) | (with_reducible refine Kd.C_drew ?_))); (case side2 => exact HC229.out); rintro e w' ⟨rfl, ⟨nd, rfl⟩⟩; refine ⟨_, rfl, ?_⟩; obtain ⟨Ao30, co30, eo30⟩ := Kd.R_slice HO_8.out; subst eo30; have q31 : ((ji23) : Int) ≤ ((t223.length : Int) : Int) := of_decide_eq_true (by first | (with_reducible assumption) | assumption); obtain ⟨i031, hi031, _, hsz31, _⟩ := info_parts info5; have hroom31 : t223.length ≤ co30 := (Kd.R_reads' HO_8.out).2.1; have hC31 : Kd.C (Kd.int .u8) _ Ao30 t223.length t223 := (Kd.R_reads' HO_8.out).2.2; have hcut31 := cut_to (P := Try.prog) 23 5 .i64 Try.underlying23 hi031 Ao30 t223.length co30 (ji23) (of_decide_eq_true (by first | (with_reducible assumption) | assumption)) q31 hroom31; have hr31 := Kd.C_take (m := ((ji23) : Int).toNat) hC31 (by omega); have hy31 : y233.length = ((ji23) : Int).toNat := (by rw [Ny233.out, List.length_take]; omega); rw [← Ny233.out] at hr31; rw [← hy31] at hcut31; have HR236 := Aside0.mk hr31; have HC236 := Aside0.mk (show y233.length ≤ co30 from by omega); clear hr31 hC31 hroom31 hi031 hsz31; have KY31 := Aside0.mk hy31; clear hy31; have KL31 := Aside0.mk (show ((ji23) : Int).toNat ≤ t223.length from by omega); replace q31 := eq_true q31) | ((with_reducible refine gate_callee (f := 26) rfl ?_); refine goesL_ (some 49) rfl rfl Try.func26 (by kernel_rfl) rfl #[.slice Ao30 y233.length co30] rfl (by (try simp only [List.map_toArray, List.map_cons, List.map_nil]); first | done | rfl | (simp only [List.length_drop, List.length_take]; rfl)) ?_; (with_reducible refine (codec_Text.calls kj7 _ _ y233 t237 t238 t239 _ ?side1 ?side2 A26.out).mono ?_); (case side1 => repeat (first | exact (by repeat (first | (with_reducible exact HR236.out) | (with_reducible refine Kd.C_alloc ?_ _) | (with_reducible refine Kd.C_drewN ?_ _) | (with_reducible refine Kd.C_drew ?_) | exact HR236.out)) | (with_reducible refine Kd.C_alloc ?_ _) | (with_reducible refine Kd.C_drewN ?_ _) | (with_reducible refine Kd.C_drew ?_))); (case side2 => exact HC236.out); rintro e w' ⟨rfl, ⟨nd, rfl⟩⟩; refine ⟨_, rfl, ?_⟩))
                        go_ret
                        exact ⟨by first | exact congrArg (fun b_ => Ending.returned (.bool b_)) HRT.out | rfl | (simp [errW_none, errW_some] <;> rfl) | (simp only [← hji18, ← hji23]; first | rfl | (simp [errW_none, errW_some] <;> rfl)) | (simp [*, errW_none, errW_some] <;> rfl), by repeat (first | (with_reducible first | exact HB.out | apply below_alloc | apply pw_below_drewN | apply below_drew1) | exact HB.out)⟩
                      · rw [if_neg c27] at H
                        have c27b0 : (t232 == 10) = false := beq_eq_false_iff_ne.mpr c27
                        have c27b1 : (t232 != 10) = true := bne_iff_ne.mpr c27
                        exact absurd H (by simp)
                    · rw [if_neg c25] at H
                      exact absurd H (by simp)
                  · rw [if_neg c24] at H
                    exact absurd H (by simp)
              · rw [if_neg c20] at H
                exact absurd H (by simp)
            · rw [if_neg c19] at H
              exact absurd H (by simp)
  · replace c5 := Bool.eq_false_iff.mpr c5
    subst c5
    have H1 : (some false) = some true := by rw [if_neg (show ¬ (false = true) by decide)] at H; first | done | exact H
    clear H
    have H := H1
    clear H1
    exact absurd H (by simp)

/-- THE ONE PURE STATEMENT of cressetlaw01_CodecHeads: yours. -/
def cressetlaw01_CodecHeads.Pure : Prop := ∀ (a0 : Int) (a1 : ByteArray) (a2 : Int), (Lit.int .i64 a0).wf = true → a1.size ≤ 140737488351232 → (Lit.int .u16 a2).wf = true → ∃ k, cressetlaw01_CodecHeads.f k a0 a1 a2 = some true
theorem cressetlaw01_CodecHeads.walk (P : cressetlaw01_CodecHeads.Pure) (a0 : Int) (a1 : ByteArray) (a2 : Int) (w : World)  (w0 : (Lit.int .i64 a0).wf = true) (w1 : a1.size ≤ 140737488351232) (w2 : (Lit.int .u16 a2).wf = true) :
    Calls Try.prog 7 #[.int .i64 a0, .string a1, .int .u16 a2] w fun e w' => e = .returned (.bool true) ∧ Below w.heap.size w w' := by
  obtain ⟨k, h⟩ := P a0 a1 a2 w0 w1 w2
  refine (cressetlaw01_CodecHeads.calls k a0 a1 a2 w h).mono ?_
  rintro e w' ⟨rfl, hd⟩
  exact ⟨rfl, hd⟩

end Go.Proofs.Ytphdinelioendaa.B

-- Written by a program of this session (wip/print2) out of Lean's print of the translation. Not trusted: Lean checks it.
import Derived.Test.YtkcdmoghnoodmaaBx0
import Derived.Test.YtkcdmoghnoodmaaBx15
namespace Go.Proofs.Ytkcdmoghnoodmaa.B
open Go.RowKit Go.Proofs.YtkcdmoghnoodmaaW.PrintWords Go.Proofs.YtkcdmoghnoodmaaW.PrintLast Go.Proofs.YtkcdmoghnoodmaaW.PrintMore Go.Proofs.YtkcdmoghnoodmaaW.Mine
attribute [local go_sem] max2_int min2_int max_two min_two max_three min_three max_four min_four str_gtr str_leq str_geq str_max str_min   -- for this text's walks alone
set_option linter.unusedVariables false
set_option linter.unusedSimpArgs false

/-! ### codec_Int: function 75 -/
mutual
def codec_Int.j0 : Nat → List Int → Int → Int → Option (Int × Int × Int)
  | 0, _, _, _ => none
  | k + 1, x0, x6, x7 => if (x0.length : Int) ≤ x6 then (some (0, 0, 10)) else (if 1 ≤ (wrap64 (1 + x6)) then (if (wrap64 (1 + x6)) ≤ (x0.length : Int) then (codec_Int.l0 k x6 x7 0 ((x0.take ((wrap64 (1 + x6)) : Int).toNat).drop 1) (((x0.take ((wrap64 (1 + x6)) : Int).toNat).drop 1).length : Int) 0) else (none)) else (none))
def codec_Int.l0 : Nat → Int → Int → Int → List Int → Int → Int → Option (Int × Int × Int)
  | 0, _, _, _, _, _, _ => none
  | k + 1, x6, x7, x8, x41, x42, x43 => if x43 < x42 then (if 0 ≤ x43 then (if x43 < (x41.length : Int) then (codec_Int.l0 k x6 x7 (Go.bits .or .u64 (IntKind.u64.wrap (x8 * 256)) (IntKind.u64.wrap (Go.bits .xor .u8 (rd x41 x43) x7))) x41 x42 (wrap64 (x43 + 1))) else (none)) else (none)) else (if x7 = 0 then (if (x8 / 9223372036854775808) = 0 then ((codec_Width.f k (wrap64 (x8))).bind fun t256 => (if t256 = (wrap64 (1 + x6)) then (some (wrap64 (x8), wrap64 (1 + x6), 0)) else (some (0, 0, 11)))) else (some (0, 0, 11))) else (if (x8 / 9223372036854775808) = 0 then ((codec_Width.f k (Go.bits .xor .i64 (-1) (wrap64 (x8)))).bind fun t257 => (if t257 = (wrap64 (1 + x6)) then (some (Go.bits .xor .i64 (-1) (wrap64 (x8)), wrap64 (1 + x6), 0)) else (some (0, 0, 11)))) else (some (0, 0, 11))))
end
def codec_Int.f (k : Nat) (l0 : List Int) : Option (Int × Int × Int) := if (l0.length : Int) = 0 then (some (0, 0, 10)) else (if 0 < (l0.length : Int) then (if (wrap64 (rd l0 0)) > 216 then (some (0, 0, 11)) else (if (wrap64 (rd l0 0)) > 208 then (codec_Int.j0 k l0 (wrap64 ((wrap64 (rd l0 0)) - 208)) 0) else (if (wrap64 (rd l0 0)) < 8 then (codec_Int.j0 k l0 (wrap64 (8 - (wrap64 (rd l0 0)))) 255) else (some (wrap64 ((wrap64 (rd l0 0)) - 108), 1, 0))))) else (none))
theorem codec_Int.mono_l : ∀ k, (∀ y0 y1 y2, LeO (codec_Int.j0 k y0 y1 y2) (codec_Int.j0 (k + 1) y0 y1 y2)) ∧ (∀ y0 y1 y2 y3 y4 y5, LeO (codec_Int.l0 k y0 y1 y2 y3 y4 y5) (codec_Int.l0 (k + 1) y0 y1 y2 y3 y4 y5))
  | 0 => ⟨fun _ _ _ r h => by simp [codec_Int.j0] at h, fun _ _ _ _ _ _ r h => by simp [codec_Int.l0] at h⟩
  | k + 1 => by
    obtain ⟨ih0, ih1⟩ := codec_Int.mono_l k
    refine ⟨?_, ?_⟩
    · intro y0 y1 y2
      unfold codec_Int.j0
      repeat' first
      | (with_reducible exact ih0 _ _ _)
      | (with_reducible exact ih1 _ _ _ _ _ _)
      | (with_reducible exact codec_Width.mono _ _)
      | (with_reducible exact LeO.refl _)
      | (with_reducible exact LeO.none _)
      | (with_reducible refine LeO.ite ?_ ?_)
      | (with_reducible refine LeO.bind ?_ (fun _ => ?_))
      | exact ih0 _ _ _
      | exact ih1 _ _ _ _ _ _
      | exact codec_Width.mono _ _
      | exact LeO.none _
      | refine LeO.ite ?_ ?_
      | refine LeO.bind ?_ (fun _ => ?_)
    · intro y0 y1 y2 y3 y4 y5
      unfold codec_Int.l0
      repeat' first
      | (with_reducible exact ih0 _ _ _)
      | (with_reducible exact ih1 _ _ _ _ _ _)
      | (with_reducible exact codec_Width.mono _ _)
      | (with_reducible exact LeO.refl _)
      | (with_reducible exact LeO.none _)
      | (with_reducible refine LeO.ite ?_ ?_)
      | (with_reducible refine LeO.bind ?_ (fun _ => ?_))
      | exact ih0 _ _ _
      | exact ih1 _ _ _ _ _ _
      | exact codec_Width.mono _ _
      | exact LeO.none _
      | refine LeO.ite ?_ ?_
      | refine LeO.bind ?_ (fun _ => ?_)
theorem codec_Int.mono : ∀ a0 k, LeO (codec_Int.f k a0) (codec_Int.f (k + 1) a0) := by
  intro a0 k
  obtain ⟨ih0, ih1⟩ := codec_Int.mono_l k
  unfold codec_Int.f
  repeat' first
      | (with_reducible exact ih0 _ _ _)
      | (with_reducible exact ih1 _ _ _ _ _ _)
      | (with_reducible exact codec_Width.mono _ _)
      | (with_reducible exact LeO.refl _)
      | (with_reducible exact LeO.none _)
      | (with_reducible refine LeO.ite ?_ ?_)
      | (with_reducible refine LeO.bind ?_ (fun _ => ?_))
      | exact ih0 _ _ _
      | exact ih1 _ _ _ _ _ _
      | exact codec_Width.mono _ _
      | exact LeO.none _
      | refine LeO.ite ?_ ?_
      | refine LeO.bind ?_ (fun _ => ?_)
set_option maxHeartbeats 8000000 in
set_option maxRecDepth 100000 in
theorem codec_Int.calls (k : Nat) (A0 : Option Addr) (c0 : Nat) (l0 : List Int) (r1 : Int) (r2 : Int) (r3 : Int) (w : World) (hr0 : Kd.C (Kd.int .u8) w A0 l0.length l0) (hc0 : l0.length ≤ c0) (h : codec_Int.f k l0 = some (r1, r2, r3)) :
    Calls Try.prog 75 #[.slice A0 l0.length c0] w fun e w' => e = .returned (.tuple #[.int .i64 r1, .int .i64 r2, .int .i64 r3]) ∧ Drawn0 w w' := by
 have HR0 := Aside0.mk hr0
 have HC0 := Aside0.mk hc0
 clear hr0 hc0
 have H : (if (l0.length : Int) = 0 then (some (0, 0, 10)) else (if 0 < (l0.length : Int) then (if (wrap64 (rd l0 0)) > 216 then (some (0, 0, 11)) else (if (wrap64 (rd l0 0)) > 208 then (codec_Int.j0 k l0 (wrap64 ((wrap64 (rd l0 0)) - 208)) 0) else (if (wrap64 (rd l0 0)) < 8 then (codec_Int.j0 k l0 (wrap64 (8 - (wrap64 (rd l0 0)))) 255) else (some (wrap64 ((wrap64 (rd l0 0)) - 108), 1, 0))))) else (none))) = some (r1, r2, r3) := h
 clear h
 by_cases c2 : (l0.length : Int) = 0
 ·
  rw [if_pos c2] at H
  have c2b0 : ((l0.length : Int) == 0) = true := beq_iff_eq.mpr c2
  have c2b1 : ((l0.length : Int) != 0) = false := bne_eq_false_iff_eq.mpr c2
  clear c2
  simp only [Option.some.injEq, Prod.mk.injEq] at H
  obtain ⟨rfl, rfl, rfl⟩ := H
  go_enter Try.func75, Try.ntmps75
  go_wp2
  go_ret3
  exact ⟨by first | rfl | (simp; done) | (simp [*]; done), by repeat (first | exact Drawn0.refl _ | apply Drawn0.step)⟩
 ·
  rw [if_neg c2] at H
  have c2b0 : ((l0.length : Int) == 0) = false := beq_eq_false_iff_ne.mpr c2
  have c2b1 : ((l0.length : Int) != 0) = true := bne_iff_ne.mpr c2
  have c2b2 : ¬ (l0 = []) := fun h_ => c2 (by rw [h_]; rfl)
  by_cases c3 : 0 < (l0.length : Int)
  ·
   rw [if_pos c3] at H
   have c3b0 : decide (0 < (l0.length : Int)) = true := decide_eq_true c3
   have c3b1 : decide (0 < l0.length) = true := decide_eq_true (by omega)
   clear c3
   have HC4 := Aside0.mk H
   clear H
   have p253 : 0 ≤ (0 : Int) := (by omega)
   have q253 : 0 < (l0.length : Int) := of_decide_eq_true (by first | (with_reducible assumption) | assumption)
   obtain ⟨ad253, e253, hx253_0⟩ := Kd.at_int HR0.out 0 p253 q253
   cases e253
   have qi253 : (0 < l0.length) = True := eq_true (by omega)
   (try rw [show ((0 : Int)).toNat = 0 from rfl] at hx253_0)
   (try rw [Addr.add_zero'] at hx253_0)
   replace p253 := eq_true p253
   replace q253 := eq_true q253
   go_enter Try.func75, Try.ntmps75
   go_upto_block 0 with (fail)
   go_cut [6, 7] (fun v6 v7 wc => ∃ (kq : Nat) (x6_3 : Int) (x7_3 : Int), v6 = .int .i64 x6_3 ∧ v7 = .int .u8 x7_3 ∧ Aside0 (codec_Int.j0 kq l0 x6_3 x7_3 = some (r1, r2, r3)) ∧ Aside0 (kq ≤ k) ∧ Drawn0 w wc)
   case first =>
    have H := HC4.out
    clear HC4
    by_cases c5 : (wrap64 (rd l0 0)) > 216
    ·
     rw [if_pos c5] at H
     have c5b0 : decide (216 < (wrap64 (rd l0 0))) = true := decide_eq_true c5
     clear c5
     (first | rw [c5b0] | (simp only [i64_w, i32_w]; rw [c5b0]) | skip)
     simp only [Option.some.injEq, Prod.mk.injEq] at H
     obtain ⟨rfl, rfl, rfl⟩ := H
     go_wp2
     go_ret3
     exact ⟨by first | rfl | (simp; done) | (simp [*]; done), by repeat (first | exact Drawn0.refl _ | apply Drawn0.step)⟩
    ·
     rw [if_neg c5] at H
     have c5b0 : decide (216 < (wrap64 (rd l0 0))) = false := decide_eq_false c5
     clear c5
     (first | rw [c5b0] | (simp only [i64_w, i32_w]; rw [c5b0]) | skip)
     by_cases c6 : (wrap64 (rd l0 0)) > 208
     ·
      rw [if_pos c6] at H
      have c6b0 : decide (208 < (wrap64 (rd l0 0))) = true := decide_eq_true c6
      clear c6
      have H' := Aside0.mk H
      clear H
      go_wp2
      go_meet
      case rel => exact ⟨_, (wrap64 ((wrap64 (rd l0 0)) - 208)), (0), (by first | rfl | (simp; done) | (simp [*]; done)), (by first | rfl | (simp; done) | (simp [*]; done)), H', ⟨by first | omega | exact Nat.le_refl _⟩, by repeat (first | exact Drawn0.refl _ | apply Drawn0.step)⟩
     ·
      rw [if_neg c6] at H
      have c6b0 : decide (208 < (wrap64 (rd l0 0))) = false := decide_eq_false c6
      clear c6
      by_cases c7 : (wrap64 (rd l0 0)) < 8
      ·
       rw [if_pos c7] at H
       have c7b0 : decide ((wrap64 (rd l0 0)) < 8) = true := decide_eq_true c7
       clear c7
       have H' := Aside0.mk H
       clear H
       go_wp2
       go_meet
       case rel => exact ⟨_, (wrap64 (8 - (wrap64 (rd l0 0)))), (255), (by first | rfl | (simp; done) | (simp [*]; done)), (by first | rfl | (simp; done) | (simp [*]; done)), H', ⟨by first | omega | exact Nat.le_refl _⟩, by repeat (first | exact Drawn0.refl _ | apply Drawn0.step)⟩
      ·
       rw [if_neg c7] at H
       have c7b0 : decide ((wrap64 (rd l0 0)) < 8) = false := decide_eq_false c7
       clear c7
       simp only [Option.some.injEq, Prod.mk.injEq] at H
       obtain ⟨rfl, rfl, rfl⟩ := H
       go_wp2
       go_ret3
       exact ⟨by first | rfl | (simp; done) | (simp [*]; done), by repeat (first | exact Drawn0.refl _ | apply Drawn0.step)⟩
   case rest =>
    clear HC4
    try clear c2
    try clear c2b0
    try clear c2b1
    try clear c2b2
    try clear p2
    try clear q2
    try clear hx2
    try clear qi2
    try clear c3
    try clear c3b0
    try clear c3b1
    try clear c5
    try clear c5b0
    try clear c6
    try clear c6b0
    try clear p6
    try clear c7
    try clear c7b0
    try clear hx253_0
    try clear p253
    try clear q253
    obtain ⟨kq, x6_3, x7_3, rfl, rfl, HA, HJ3, ⟨mc3, rfl⟩⟩ := hcut
    cases kq with
    | zero => exact absurd HA.out (by simp [codec_Int.j0])
    | succ kj3 =>
     have H := HA.out
     clear HA
     simp only [codec_Int.j0] at H
     by_cases c8 : (l0.length : Int) ≤ x6_3
     ·
      rw [if_pos c8] at H
      have c8b0 : decide ((l0.length : Int) ≤ x6_3) = true := decide_eq_true c8
      clear c8
      simp only [Option.some.injEq, Prod.mk.injEq] at H
      obtain ⟨rfl, rfl, rfl⟩ := H
      go_wp2
      go_ret3
      exact ⟨by first | rfl | (simp; done) | (simp [*]; done), by repeat (first | exact Drawn0.refl _ | apply Drawn0.step)⟩
     ·
      rw [if_neg c8] at H
      have c8b0 : decide ((l0.length : Int) ≤ x6_3) = false := decide_eq_false c8
      clear c8
      by_cases c9 : 1 ≤ (wrap64 (1 + x6_3))
      ·
       rw [if_pos c9] at H
       have c9b0 := eq_true c9
       have c9b1 : decide (1 ≤ (wrap64 (1 + x6_3))) = true := decide_eq_true c9
       by_cases c10 : (wrap64 (1 + x6_3)) ≤ (l0.length : Int)
       ·
        rw [if_pos c10] at H
        have c10b0 := eq_true c10
        have c10b1 : decide ((wrap64 (1 + x6_3)) ≤ (l0.length : Int)) = true := decide_eq_true c10
        have H' := Aside0.mk H
        clear H
        obtain ⟨i011, hi011, _, hsz11, _⟩ := info_parts info5
        obtain ⟨A11, hcut11, hA11, hC11⟩ := print_mid_of (P := Try.prog) (Value.int .u8) 0 42 5 .i64 .i64 Try.underlying42 hi011 hsz11 (some ad253) c0 l0 1 (wrap64 (1 + x6_3)) (by omega) (by first | omega | exact of_decide_eq_true (by first | (with_reducible assumption) | assumption)) (of_decide_eq_true (by first | (with_reducible assumption) | assumption)) HC0.out
        have HLQ11 := Aside0.mk (show ((l0.take (((wrap64 (1 + x6_3)) : Int).toNat)).drop 1).length = ((wrap64 (1 + x6_3)) : Int).toNat - 1 from by rw [List.length_drop, List.length_take]; have h1_ : ((wrap64 (1 + x6_3)) : Int) ≤ (l0.length : Int) := of_decide_eq_true (by first | (with_reducible assumption) | assumption); omega)
        have HR254 := Aside0.mk (Kd.C_of_reads (h1 := fun _ => rfl) (hA11 _ (Kd.reads_of_C HR0.out)))
        have HC254 := Aside0.mk hC11
        clear hA11 hC11 hi011 hsz11
        go_wp2
        go_loopg [8, 43] kj3 (fun kq v8 v43 w' => ∃ (x8_2 : Int) (x43_2 : Int), v8 = .int .u64 x8_2 ∧ v43 = .int .i64 x43_2 ∧ Aside0 (codec_Int.l0 kq x6_3 x7_3 x8_2 ((l0.take ((wrap64 (1 + x6_3)) : Int).toNat).drop 1) (((l0.take ((wrap64 (1 + x6_3)) : Int).toNat).drop 1).length : Int) x43_2 = some (r1, r2, r3)) ∧ Aside0 (kq ≤ kj3) ∧ Drawn0 w w')
        case atStart => exact ⟨(0), (0), (by first | rfl | (simp; done) | (simp [*]; done)), (by first | rfl | (simp; done) | (simp [*]; done)), H', ⟨Nat.le_refl _⟩, by repeat (first | exact Drawn0.refl _ | apply Drawn0.step)⟩
        case round =>
         clear H'
         try clear c1
         try clear c2
         try clear c2b0
         try clear c2b1
         try clear c2b2
         try clear p2
         try clear q2
         try clear hx2
         try clear qi2
         try clear c3
         try clear c3b0
         try clear c3b1
         try clear c5
         try clear c5b0
         try clear c6
         try clear c6b0
         try clear p6
         try clear c7
         try clear c7b0
         try clear c8
         try clear c8b0
         try clear c9
         try clear c9b0
         try clear c9b1
         try clear c10
         try clear c10b0
         try clear c10b1
         try clear hx253_0
         try clear p2
         try clear p253
         try clear p6
         try clear q2
         try clear q253
         obtain ⟨x8_2, x43_2, rfl, rfl, HA, HK2, ⟨m2, rfl⟩⟩ := hrel
         cases gk with
         | zero => exact absurd HA.out (by simp [codec_Int.l0])
         | succ k2 =>
          have H := HA.out
          clear HA
          simp only [codec_Int.l0] at H
          by_cases c12 : x43_2 < (((l0.take ((wrap64 (1 + x6_3)) : Int).toNat).drop 1).length : Int)
          ·
           rw [if_pos c12] at H
           have c12b0 : decide (x43_2 < (((l0.take ((wrap64 (1 + x6_3)) : Int).toNat).drop 1).length : Int)) = true := decide_eq_true c12
           have c12b7 : decide (x43_2 < (((((wrap64 (1 + x6_3)) : Int).toNat - 1 : Nat)) : Int)) = true := by rw [← show _ = _ from HLQ11.out]; exact c12b0
           clear c12
           by_cases c13 : 0 ≤ x43_2
           ·
            rw [if_pos c13] at H
            have c13b0 : decide (0 ≤ x43_2) = true := decide_eq_true c13
            clear c13
            by_cases c14 : x43_2 < (((l0.take ((wrap64 (1 + x6_3)) : Int).toNat).drop 1).length : Int)
            ·
             rw [if_pos c14] at H
             have c14b0 : decide (x43_2 < (((l0.take ((wrap64 (1 + x6_3)) : Int).toNat).drop 1).length : Int)) = true := decide_eq_true c14
             have c14b7 : decide (x43_2 < (((((wrap64 (1 + x6_3)) : Int).toNat - 1 : Nat)) : Int)) = true := by rw [← show _ = _ from HLQ11.out]; exact c14b0
             clear c14
             have H' := Aside0.mk H
             clear H
             have p255 : 0 ≤ (x43_2 : Int) := of_decide_eq_true (by first | (with_reducible assumption) | assumption)
             have q255 : x43_2 < (((l0.take ((wrap64 (1 + x6_3)) : Int).toNat).drop 1).length : Int) := of_decide_eq_true (by first | (with_reducible assumption) | assumption)
             obtain ⟨ad255, e255, hx255_0⟩ := Kd.at_int HR254.out x43_2 p255 q255
             cases e255
             replace p255 := eq_true p255
             replace q255 := eq_true q255
             have q255b7 := eq_true (show x43_2 < (((((wrap64 (1 + x6_3)) : Int).toNat - 1 : Nat)) : Int) from by rw [← show _ = _ from HLQ11.out]; exact of_eq_true q255)
             go_wp2
             go_roundg k2
             case measure => have := HJ3.out; have := HK2.out; omega
             case rel => exact ⟨(Go.bits .or .u64 (IntKind.u64.wrap (x8_2 * 256)) (IntKind.u64.wrap (Go.bits .xor .u8 (rd ((l0.take ((wrap64 (1 + x6_3)) : Int).toNat).drop 1) x43_2) x7_3))), (wrap64 (x43_2 + 1)), (by first | rfl | (simp; done) | (simp [*]; done)), (by first | rfl | (simp; done) | (simp [*]; done)), H', ⟨by have := HJ3.out; have := HK2.out; omega⟩, by repeat (first | exact Drawn0.refl _ | apply Drawn0.step)⟩
            ·
             rw [if_neg c14] at H
             exact absurd H (by simp)
           ·
            rw [if_neg c13] at H
            exact absurd H (by simp)
          ·
           rw [if_neg c12] at H
           have c12b0 : decide (x43_2 < (((l0.take ((wrap64 (1 + x6_3)) : Int).toNat).drop 1).length : Int)) = false := decide_eq_false c12
           have c12b7 : decide (x43_2 < (((((wrap64 (1 + x6_3)) : Int).toNat - 1 : Nat)) : Int)) = false := by rw [← show _ = _ from HLQ11.out]; exact c12b0
           clear c12
           by_cases c15 : x7_3 = 0
           ·
            rw [if_pos c15] at H
            have c15b0 : (x7_3 == 0) = true := beq_iff_eq.mpr c15
            have c15b1 : (x7_3 != 0) = false := bne_eq_false_iff_eq.mpr c15
            clear c15
            by_cases c16 : (x8_2 / 9223372036854775808) = 0
            ·
             rw [if_pos c16] at H
             have c16b0 : ((x8_2 / 9223372036854775808) == 0) = true := beq_iff_eq.mpr c16
             have c16b1 : ((x8_2 / 9223372036854775808) != 0) = false := bne_eq_false_iff_eq.mpr c16
             clear c16
             replace H := Option.bind_eq_some_iff.mp H
             obtain ⟨t256, A170, H⟩ := H
             replace H : (if t256 = (wrap64 (1 + x6_3)) then (some (wrap64 (x8_2), wrap64 (1 + x6_3), 0)) else (some (0, 0, 11))) = some (r1, r2, r3) := H
             have A17 := Aside0.mk A170
             clear A170
             by_cases c18 : t256 = (wrap64 (1 + x6_3))
             ·
              rw [if_pos c18] at H
              have c18b0 : (t256 == (wrap64 (1 + x6_3))) = true := beq_iff_eq.mpr c18
              have c18b1 : (t256 != (wrap64 (1 + x6_3))) = false := bne_eq_false_iff_eq.mpr c18
              clear c18
              simp only [Option.some.injEq, Prod.mk.injEq] at H
              obtain ⟨rfl, rfl, rfl⟩ := H
              go_wp2_with (first | (go_at_call 86; (with_reducible refine (codec_Width.calls k2 (wrap64 (x8_2)) t256 _ A17.out).mono ?_); rintro e w' ⟨rfl, ⟨nd, rfl⟩⟩))
              go_ret3
              exact ⟨by first | rfl | (simp; done) | (simp [*]; done), by repeat (first | exact Drawn0.refl _ | apply Drawn0.step)⟩
             ·
              rw [if_neg c18] at H
              have c18b0 : (t256 == (wrap64 (1 + x6_3))) = false := beq_eq_false_iff_ne.mpr c18
              have c18b1 : (t256 != (wrap64 (1 + x6_3))) = true := bne_iff_ne.mpr c18
              simp only [Option.some.injEq, Prod.mk.injEq] at H
              obtain ⟨rfl, rfl, rfl⟩ := H
              go_wp2_with (first | (go_at_call 86; (with_reducible refine (codec_Width.calls k2 (wrap64 (x8_2)) t256 _ A17.out).mono ?_); rintro e w' ⟨rfl, ⟨nd, rfl⟩⟩))
              go_ret3
              exact ⟨by first | rfl | (simp; done) | (simp [*]; done), by repeat (first | exact Drawn0.refl _ | apply Drawn0.step)⟩
            ·
             rw [if_neg c16] at H
             have c16b0 : ((x8_2 / 9223372036854775808) == 0) = false := beq_eq_false_iff_ne.mpr c16
             have c16b1 : ((x8_2 / 9223372036854775808) != 0) = true := bne_iff_ne.mpr c16
             simp only [Option.some.injEq, Prod.mk.injEq] at H
             obtain ⟨rfl, rfl, rfl⟩ := H
             go_wp2
             go_ret3
             exact ⟨by first | rfl | (simp; done) | (simp [*]; done), by repeat (first | exact Drawn0.refl _ | apply Drawn0.step)⟩
           ·
            rw [if_neg c15] at H
            have c15b0 : (x7_3 == 0) = false := beq_eq_false_iff_ne.mpr c15
            have c15b1 : (x7_3 != 0) = true := bne_iff_ne.mpr c15
            by_cases c19 : (x8_2 / 9223372036854775808) = 0
            ·
             rw [if_pos c19] at H
             have c19b0 : ((x8_2 / 9223372036854775808) == 0) = true := beq_iff_eq.mpr c19
             have c19b1 : ((x8_2 / 9223372036854775808) != 0) = false := bne_eq_false_iff_eq.mpr c19
             clear c19
             replace H := Option.bind_eq_some_iff.mp H
             obtain ⟨t257, A200, H⟩ := H
             replace H : (if t257 = (wrap64 (1 + x6_3)) then (some (Go.bits .xor .i64 (-1) (wrap64 (x8_2)), wrap64 (1 + x6_3), 0)) else (some (0, 0, 11))) = some (r1, r2, r3) := H
             have A20 := Aside0.mk A200
             clear A200
             by_cases c21 : t257 = (wrap64 (1 + x6_3))
             ·
              rw [if_pos c21] at H
              have c21b0 : (t257 == (wrap64 (1 + x6_3))) = true := beq_iff_eq.mpr c21
              have c21b1 : (t257 != (wrap64 (1 + x6_3))) = false := bne_eq_false_iff_eq.mpr c21
              clear c21
              simp only [Option.some.injEq, Prod.mk.injEq] at H
              obtain ⟨rfl, rfl, rfl⟩ := H
              go_wp2_with (first | (go_at_call 86; (with_reducible refine (codec_Width.calls k2 (Go.bits .xor .i64 (-1) (wrap64 (x8_2))) t257 _ A20.out).mono ?_); rintro e w' ⟨rfl, ⟨nd, rfl⟩⟩))
              go_ret3
              exact ⟨by first | rfl | (simp; done) | (simp [*]; done), by repeat (first | exact Drawn0.refl _ | apply Drawn0.step)⟩
             ·
              rw [if_neg c21] at H
              have c21b0 : (t257 == (wrap64 (1 + x6_3))) = false := beq_eq_false_iff_ne.mpr c21
              have c21b1 : (t257 != (wrap64 (1 + x6_3))) = true := bne_iff_ne.mpr c21
              simp only [Option.some.injEq, Prod.mk.injEq] at H
              obtain ⟨rfl, rfl, rfl⟩ := H
              go_wp2_with (first | (go_at_call 86; (with_reducible refine (codec_Width.calls k2 (Go.bits .xor .i64 (-1) (wrap64 (x8_2))) t257 _ A20.out).mono ?_); rintro e w' ⟨rfl, ⟨nd, rfl⟩⟩))
              go_ret3
              exact ⟨by first | rfl | (simp; done) | (simp [*]; done), by repeat (first | exact Drawn0.refl _ | apply Drawn0.step)⟩
            ·
             rw [if_neg c19] at H
             have c19b0 : ((x8_2 / 9223372036854775808) == 0) = false := beq_eq_false_iff_ne.mpr c19
             have c19b1 : ((x8_2 / 9223372036854775808) != 0) = true := bne_iff_ne.mpr c19
             simp only [Option.some.injEq, Prod.mk.injEq] at H
             obtain ⟨rfl, rfl, rfl⟩ := H
             go_wp2
             go_ret3
             exact ⟨by first | rfl | (simp; done) | (simp [*]; done), by repeat (first | exact Drawn0.refl _ | apply Drawn0.step)⟩
       ·
        rw [if_neg c10] at H
        exact absurd H (by simp)
      ·
       rw [if_neg c9] at H
       exact absurd H (by simp)
  ·
   rw [if_neg c3] at H
   exact absurd H (by simp)

end Go.Proofs.Ytkcdmoghnoodmaa.B

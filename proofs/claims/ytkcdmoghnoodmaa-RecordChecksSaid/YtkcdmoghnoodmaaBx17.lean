-- Written by a program of this session (wip/print2) out of Lean's print of the translation. Not trusted: Lean checks it.
import Derived.Test.YtkcdmoghnoodmaaBx0
import Derived.Test.YtkcdmoghnoodmaaBx15
import Derived.Test.YtkcdmoghnoodmaaBx16
namespace Go.Proofs.Ytkcdmoghnoodmaa.B
open Go.RowKit Go.Proofs.YtkcdmoghnoodmaaW.PrintWords Go.Proofs.YtkcdmoghnoodmaaW.PrintLast Go.Proofs.YtkcdmoghnoodmaaW.PrintMore Go.Proofs.YtkcdmoghnoodmaaW.Mine
attribute [local go_sem] max2_int min2_int max_two min_two max_three min_three max_four min_four str_gtr str_leq str_geq str_max str_min   -- for this text's walks alone
set_option linter.unusedVariables false
set_option linter.unusedSimpArgs false

/-! ### codec_PutInt: function 108 -/
mutual
def codec_PutInt.j0 : Nat → List Int → Int → Int → Int → Int → Option (List Int)
  | 0, _, _, _, _, _ => none
  | k + 1, x0, x1, x5, x6, x7 => if x0.length < 140737488355328 then (codec_PutInt.l0 k (x0 ++ [(x6) % 256]) x1 x7 (wrap64 (8 * (wrap64 (x5 - 1))))) else (none)
def codec_PutInt.l0 : Nat → List Int → Int → Int → Int → Option (List Int)
  | 0, _, _, _, _ => none
  | k + 1, x0, x1, x7, x8 => if x8 ≥ 0 then (if 0 ≤ x8 then (if x0.length < 140737488355328 then (codec_PutInt.l0 k (x0 ++ [Go.bits .xor .u8 ((shr .i64 x1 x8) % 256) x7]) x1 x7 (wrap64 (x8 - 8))) else (none)) else (none)) else (some x0)
end
def codec_PutInt.f (k : Nat) (l0 : List Int) (a1 : Int) : Option (List Int) := (slices_Clip_byte_byte.f l0).bind fun t138 => ((codec_Width.f k a1).bind fun t141 => (if (wrap64 (t141 - 1)) = 0 then (if t138.length < 140737488355328 then (some (t138 ++ [(wrap64 (a1 + 108)) % 256])) else (none)) else (if a1 < 0 then (codec_PutInt.j0 k t138 (Go.bits .xor .i64 (-1) a1) (wrap64 (t141 - 1)) (wrap64 (8 - (wrap64 (t141 - 1)))) 255) else (codec_PutInt.j0 k t138 a1 (wrap64 (t141 - 1)) (wrap64 (208 + (wrap64 (t141 - 1)))) 0))))
theorem codec_PutInt.mono_l : ∀ k, (∀ y0 y1 y2 y3 y4, LeO (codec_PutInt.j0 k y0 y1 y2 y3 y4) (codec_PutInt.j0 (k + 1) y0 y1 y2 y3 y4)) ∧ (∀ y0 y1 y2 y3, LeO (codec_PutInt.l0 k y0 y1 y2 y3) (codec_PutInt.l0 (k + 1) y0 y1 y2 y3))
  | 0 => ⟨fun _ _ _ _ _ r h => by simp [codec_PutInt.j0] at h, fun _ _ _ _ r h => by simp [codec_PutInt.l0] at h⟩
  | k + 1 => by
    obtain ⟨ih0, ih1⟩ := codec_PutInt.mono_l k
    refine ⟨?_, ?_⟩
    · intro y0 y1 y2 y3 y4
      unfold codec_PutInt.j0
      repeat' first
      | (with_reducible exact ih0 _ _ _ _ _)
      | (with_reducible exact ih1 _ _ _ _)
      | (with_reducible exact codec_Width.mono _ _)
      | (with_reducible exact LeO.refl _)
      | (with_reducible exact LeO.none _)
      | (with_reducible refine LeO.ite ?_ ?_)
      | (with_reducible refine LeO.bind ?_ (fun _ => ?_))
      | exact ih0 _ _ _ _ _
      | exact ih1 _ _ _ _
      | exact codec_Width.mono _ _
      | exact LeO.none _
      | refine LeO.ite ?_ ?_
      | refine LeO.bind ?_ (fun _ => ?_)
    · intro y0 y1 y2 y3
      unfold codec_PutInt.l0
      repeat' first
      | (with_reducible exact ih0 _ _ _ _ _)
      | (with_reducible exact ih1 _ _ _ _)
      | (with_reducible exact codec_Width.mono _ _)
      | (with_reducible exact LeO.refl _)
      | (with_reducible exact LeO.none _)
      | (with_reducible refine LeO.ite ?_ ?_)
      | (with_reducible refine LeO.bind ?_ (fun _ => ?_))
      | exact ih0 _ _ _ _ _
      | exact ih1 _ _ _ _
      | exact codec_Width.mono _ _
      | exact LeO.none _
      | refine LeO.ite ?_ ?_
      | refine LeO.bind ?_ (fun _ => ?_)
theorem codec_PutInt.mono : ∀ a0 a1 k, LeO (codec_PutInt.f k a0 a1) (codec_PutInt.f (k + 1) a0 a1) := by
  intro a0 a1 k
  obtain ⟨ih0, ih1⟩ := codec_PutInt.mono_l k
  unfold codec_PutInt.f
  repeat' first
      | (with_reducible exact ih0 _ _ _ _ _)
      | (with_reducible exact ih1 _ _ _ _)
      | (with_reducible exact codec_Width.mono _ _)
      | (with_reducible exact LeO.refl _)
      | (with_reducible exact LeO.none _)
      | (with_reducible refine LeO.ite ?_ ?_)
      | (with_reducible refine LeO.bind ?_ (fun _ => ?_))
      | exact ih0 _ _ _ _ _
      | exact ih1 _ _ _ _
      | exact codec_Width.mono _ _
      | exact LeO.none _
      | refine LeO.ite ?_ ?_
      | refine LeO.bind ?_ (fun _ => ?_)
set_option maxHeartbeats 8000000 in
set_option maxRecDepth 100000 in
theorem codec_PutInt.calls (k : Nat) (A0 : Option Addr) (c0 : Nat) (l0 : List Int) (a1 : Int) (r : List Int) (w : World) (hr0 : Kd.C (Kd.int .u8) w A0 l0.length l0) (hc0 : l0.length ≤ c0) (h : codec_PutInt.f k l0 a1 = some r) :
    Calls Try.prog 108 #[.slice A0 l0.length c0, .int .i64 a1] w fun e w' => ∃ v0_ : Value, e = .returned (v0_) ∧ Kd.R (Kd.int .u8) 5 w' w.heap.size (fun _ => True) v0_ r ∧ Below w.heap.size w w' := by
 have HR0 := Aside0.mk hr0
 have HC0 := Aside0.mk hc0
 clear hr0 hc0
 have HB := Aside0.mk (Below.refl w.heap.size w)
 have H : ((slices_Clip_byte_byte.f l0).bind fun t138 => ((codec_Width.f k a1).bind fun t141 => (if (wrap64 (t141 - 1)) = 0 then (if t138.length < 140737488355328 then (some (t138 ++ [(wrap64 (a1 + 108)) % 256])) else (none)) else (if a1 < 0 then (codec_PutInt.j0 k t138 (Go.bits .xor .i64 (-1) a1) (wrap64 (t141 - 1)) (wrap64 (8 - (wrap64 (t141 - 1)))) 255) else (codec_PutInt.j0 k t138 a1 (wrap64 (t141 - 1)) (wrap64 (208 + (wrap64 (t141 - 1)))) 0))))) = some r := h
 clear h
 replace H := Option.bind_eq_some_iff.mp H
 obtain ⟨t138, A30, H⟩ := H
 replace H : ((codec_Width.f k a1).bind fun t141 => (if (wrap64 (t141 - 1)) = 0 then (if t138.length < 140737488355328 then (some (t138 ++ [(wrap64 (a1 + 108)) % 256])) else (none)) else (if a1 < 0 then (codec_PutInt.j0 k t138 (Go.bits .xor .i64 (-1) a1) (wrap64 (t141 - 1)) (wrap64 (8 - (wrap64 (t141 - 1)))) 255) else (codec_PutInt.j0 k t138 a1 (wrap64 (t141 - 1)) (wrap64 (208 + (wrap64 (t141 - 1)))) 0)))) = some r := H
 have A3 := Aside0.mk A30
 clear A30
 replace H := Option.bind_eq_some_iff.mp H
 obtain ⟨t141, A40, H⟩ := H
 replace H : (if (wrap64 (t141 - 1)) = 0 then (if t138.length < 140737488355328 then (some (t138 ++ [(wrap64 (a1 + 108)) % 256])) else (none)) else (if a1 < 0 then (codec_PutInt.j0 k t138 (Go.bits .xor .i64 (-1) a1) (wrap64 (t141 - 1)) (wrap64 (8 - (wrap64 (t141 - 1)))) 255) else (codec_PutInt.j0 k t138 a1 (wrap64 (t141 - 1)) (wrap64 (208 + (wrap64 (t141 - 1)))) 0))) = some r := H
 have A4 := Aside0.mk A40
 clear A40
 have HC5 := Aside0.mk H
 clear H
 go_enter Try.func108, Try.ntmps108
 go_upto_block 0 with (first | ((with_reducible refine gate_callee (f := 110) rfl ?_); refine goesL_ (some 10) rfl rfl Try.func110 (by kernel_rfl) rfl #[.slice A0 l0.length c0] rfl (by (try simp only [List.map_toArray, List.map_cons, List.map_nil]); first | done | rfl | (simp only [List.length_drop, List.length_take]; rfl)) ?_; (with_reducible refine (slices_Clip_byte_byte.calls _ _ l0 t138 _ ?side1 ?side2 A3.out).mono ?_); (case side1 => repeat (first | exact HR0.out | (with_reducible refine Kd.C_alloc ?_ _) | (with_reducible refine Kd.C_drewN ?_ _) | (with_reducible refine Kd.C_drew ?_))); (case side2 => exact HC0.out); rintro e w6 ⟨v139, rfl, ho0, hb⟩; refine ⟨_, rfl, ?_⟩; have n0_ := Aside0.mk ho0; have n1_ := Aside0.mk (below_step (by repeat (first | (with_reducible first | exact HB.out | apply below_alloc | apply pw_below_drewN | apply below_drew1) | exact HB.out)) hb); clear HB; have HO140 := n0_; have HB := n1_; clear n0_ n1_; (try clear hb); (try clear hb2); (try clear hk); (try clear hi); (try clear ho0)) | ((with_reducible refine gate_callee (f := 86) rfl ?_); refine goesL_ (some 12) rfl rfl Try.func86 (by kernel_rfl) rfl #[.int .i64 a1] rfl (by (try simp only [List.map_toArray, List.map_cons, List.map_nil]); first | done | rfl | (simp only [List.length_drop, List.length_take]; rfl)) ?_; (with_reducible refine (codec_Width.calls k a1 t141 _ A4.out).mono ?_); rintro e w' ⟨rfl, ⟨nd, rfl⟩⟩; refine ⟨_, rfl, ?_⟩))
 (try simp only [Act.put, List.setIfInBounds_toArray, List.set_cons_zero, List.set_cons_succ])
 go_cut [1, 6, 7] (fun v1 v6 v7 wc => ∃ (kq : Nat) (x1_4 : Int) (x6_4 : Int) (x7_4 : Int), v1 = .int .i64 x1_4 ∧ v6 = .int .i64 x6_4 ∧ v7 = .int .u8 x7_4 ∧ Aside0 (codec_PutInt.j0 kq t138 x1_4 (wrap64 (t141 - 1)) x6_4 x7_4 = some r) ∧ Aside0 (kq ≤ k) ∧ Aside0 (FullRow (Kd.int .u8) wc v139 t138) ∧ Aside0 (Below w.heap.size w wc))
 case first =>
  have H := HC5.out
  clear HC5
  by_cases c7 : (wrap64 (t141 - 1)) = 0
  ·
   rw [if_pos c7] at H
   have c7b0 : ((wrap64 (t141 - 1)) == 0) = true := beq_iff_eq.mpr c7
   have c7b1 : ((wrap64 (t141 - 1)) != 0) = false := bne_eq_false_iff_eq.mpr c7
   clear c7
   (first | rw [c7b0] | (simp only [i64_w, i32_w]; rw [c7b0]) | skip)
   by_cases c8 : t138.length < 140737488355328
   ·
    rw [if_pos c8] at H
    have LMc8 := Aside0.mk c8
    clear c8
    obtain ⟨y142, hy142⟩ : ∃ y_ : List Int, y_ = (t138 ++ [(wrap64 (a1 + 108)) % 256]) := ⟨_, rfl⟩
    replace H : (some y142) = some r := by first | (rw [hy142]; with_reducible exact H) | (have H2_ := (Option.bind_some _ _).symm.trans H; rw [hy142]; with_reducible exact H2_) | (have H2_ := (Option.bind_some _ _).symm.trans H; with_reducible exact H2_) | with_reducible exact H | (rw [hy142]; exact H) | exact H
    have Ny142 := Aside0.mk hy142
    clear hy142
    obtain rfl := Option.some.inj H
    go_wp2_with (first | ((with_reducible refine gate_builtin (b := .append) (xs := #[.tmp 19, .tmp 23]) rfl ?_); at_builtin; refine full_append .u8 (w0 := w) w.heap.size rfl (.tmp 19) (.tmp 23) 42 5 (.int .u8 0) 1 rfl Try.underlying42 info5 rfl (by decide) (by omega) v139 t138 ((wrap64 (a1 + 108)) % 256) [.int .u8 ((wrap64 (a1 + 108)) % 256)] (fun _ => True) (fun _ => False) rfl rfl ?aP (fun _ hk => hk.elim) ?aF ?aO ?aB ?aS ?aL ?_; (case aP => exact rfl); (case aB => exact (by repeat (first | (with_reducible first | exact HB.out | apply below_alloc | apply pw_below_drewN | apply below_drew1) | exact HB.out))); (case aF => exact (fun _ _ => trivial)); (case aO => exact (by (with_reducible repeat (first | apply FullRow.alloc | apply FullRow.drewN | apply FullRow.drew)); exact HO140.out)); (case aS => exact (below_size (by repeat (first | (with_reducible first | exact HB.out | apply below_alloc | apply pw_below_drewN | apply below_drew1) | exact HB.out)))); (case aL => have := LMc8.out; omega); intro v143 w9 ho hb hg hat; rw [← Ny142.out] at ho; have n0_ := Aside0.mk (hb); have n1_ := Aside0.mk (ho); clear HB; clear HO140; have HB := n0_; have HO144 := n1_; clear n0_ n1_; clear ho hb hg hat))
    go_ret
    exact ⟨_, by first | rfl | (simp [errW_none, errW_some] <;> rfl) | (simp [*, errW_none, errW_some] <;> rfl), by (with_reducible repeat (first | apply Kd.R_alloc | apply Kd.R_drewN | apply Kd.R_drew)); exact HO144.out, by repeat (first | (with_reducible first | exact HB.out | apply below_alloc | apply pw_below_drewN | apply below_drew1) | exact HB.out)⟩
   ·
    rw [if_neg c8] at H
    exact absurd H (by simp)
  ·
   rw [if_neg c7] at H
   have c7b0 : ((wrap64 (t141 - 1)) == 0) = false := beq_eq_false_iff_ne.mpr c7
   have c7b1 : ((wrap64 (t141 - 1)) != 0) = true := bne_iff_ne.mpr c7
   (first | rw [c7b0] | (simp only [i64_w, i32_w]; rw [c7b0]) | skip)
   by_cases c10 : a1 < 0
   ·
    rw [if_pos c10] at H
    have c10b0 : decide (a1 < 0) = true := decide_eq_true c10
    clear c10
    have H' := Aside0.mk H
    clear H
    go_wp2
    go_meet
    case rel => exact ⟨_, (Go.bits .xor .i64 (-1) a1), (wrap64 (8 - (wrap64 (t141 - 1)))), (255), (by first | rfl | (simp; done) | (simp [*]; done)), (by first | rfl | (simp; done) | (simp [*]; done)), (by first | rfl | (simp; done) | (simp [*]; done)), H', ⟨by first | omega | exact Nat.le_refl _⟩, ⟨by (with_reducible repeat (first | apply FullRow.alloc | apply FullRow.drewN | apply FullRow.drew)); exact HO140.out⟩, ⟨by repeat (first | (with_reducible first | exact HB.out | apply below_alloc | apply pw_below_drewN | apply below_drew1) | exact HB.out)⟩⟩
   ·
    rw [if_neg c10] at H
    have c10b0 : decide (a1 < 0) = false := decide_eq_false c10
    clear c10
    have H' := Aside0.mk H
    clear H
    go_wp2
    go_meet
    case rel => exact ⟨_, (a1), (wrap64 (208 + (wrap64 (t141 - 1)))), (0), (by first | rfl | (simp; done) | (simp [*]; done)), (by first | rfl | (simp; done) | (simp [*]; done)), (by first | rfl | (simp; done) | (simp [*]; done)), H', ⟨by first | omega | exact Nat.le_refl _⟩, ⟨by (with_reducible repeat (first | apply FullRow.alloc | apply FullRow.drewN | apply FullRow.drew)); exact HO140.out⟩, ⟨by repeat (first | (with_reducible first | exact HB.out | apply below_alloc | apply pw_below_drewN | apply below_drew1) | exact HB.out)⟩⟩
 case rest =>
  clear HC5
  try clear c1
  try clear p2
  try clear p6
  try clear c7
  try clear c7b0
  try clear c7b1
  try clear c8
  try clear c10
  try clear c10b0
  obtain ⟨kq, x1_4, x6_4, x7_4, rfl, rfl, rfl, HA, HJ4, HO_0, HB⟩ := hcut
  cases kq with
  | zero => exact absurd HA.out (by simp [codec_PutInt.j0])
  | succ kj4 =>
   have H := HA.out
   clear HA
   simp only [codec_PutInt.j0] at H
   by_cases c11 : t138.length < 140737488355328
   ·
    rw [if_pos c11] at H
    have LMc11 := Aside0.mk c11
    clear c11
    obtain ⟨y145, hy145⟩ : ∃ y_ : List Int, y_ = (t138 ++ [(x6_4) % 256]) := ⟨_, rfl⟩
    replace H : (codec_PutInt.l0 kj4 y145 x1_4 x7_4 (wrap64 (8 * (wrap64 ((wrap64 (t141 - 1)) - 1))))) = some r := by first | (rw [hy145]; with_reducible exact H) | (have H2_ := (Option.bind_some _ _).symm.trans H; rw [hy145]; with_reducible exact H2_) | (have H2_ := (Option.bind_some _ _).symm.trans H; with_reducible exact H2_) | with_reducible exact H | (rw [hy145]; exact H) | exact H
    have Ny145 := Aside0.mk hy145
    clear hy145
    have H' := Aside0.mk H
    clear H
    go_wp2_with (first | ((with_reducible refine gate_builtin (b := .append) (xs := #[.tmp 32, .tmp 35]) rfl ?_); at_builtin; refine full_append .u8 (w0 := w) w.heap.size rfl (.tmp 32) (.tmp 35) 42 5 (.int .u8 0) 1 rfl Try.underlying42 info5 rfl (by decide) (by omega) v139 t138 ((x6_4) % 256) [.int .u8 ((x6_4) % 256)] (fun _ => True) (fun _ => False) rfl rfl ?aP (fun _ hk => hk.elim) ?aF ?aO ?aB ?aS ?aL ?_; (case aP => exact rfl); (case aB => exact (by repeat (first | (with_reducible first | exact HB.out | apply below_alloc | apply pw_below_drewN | apply below_drew1) | exact HB.out))); (case aF => exact (fun _ _ => trivial)); (case aO => exact (by (with_reducible repeat (first | apply FullRow.alloc | apply FullRow.drewN | apply FullRow.drew)); exact HO_0.out)); (case aS => exact (below_size (by repeat (first | (with_reducible first | exact HB.out | apply below_alloc | apply pw_below_drewN | apply below_drew1) | exact HB.out)))); (case aL => have := LMc11.out; omega); intro v146 w12 ho hb hg hat; rw [← Ny145.out] at ho; have n0_ := Aside0.mk (hb); have n1_ := Aside0.mk (ho); clear HB; clear HO_0; have HB := n0_; have HO147 := n1_; clear n0_ n1_; clear ho hb hg hat))
    go_loopg [0, 8] kj4 (fun kq v0 v8 w' => ∃ (x0_2 : List Int) (x8_2 : Int), v8 = .int .i64 x8_2 ∧ Aside0 (codec_PutInt.l0 kq x0_2 x1_4 x7_4 x8_2 = some r) ∧ Aside0 (kq ≤ kj4) ∧ Aside0 (Kd.R (Kd.int .u8) 5 w' w.heap.size (fun _ => True) v0 x0_2) ∧ Aside0 (Below w.heap.size w w'))
    case atStart => exact ⟨(y145), (wrap64 (8 * (wrap64 ((wrap64 (t141 - 1)) - 1)))), (by first | rfl | (simp; done) | (simp [*]; done)), H', ⟨Nat.le_refl _⟩, ⟨by (with_reducible repeat (first | apply Kd.R_alloc | apply Kd.R_drewN | apply Kd.R_drew)); exact HO147.out⟩, ⟨by repeat (first | (with_reducible first | exact HB.out | apply below_alloc | apply pw_below_drewN | apply below_drew1) | exact HB.out)⟩⟩
    case round =>
     clear H'
     try clear c1
     try clear p2
     try clear p6
     try clear c7
     try clear c7b0
     try clear c7b1
     try clear c8
     try clear c10
     try clear c10b0
     try clear c11
     try clear p2
     try clear p6
     obtain ⟨x0_2, x8_2, rfl, HA, HK2, HO_0, HB⟩ := hrel
     cases gk with
     | zero => exact absurd HA.out (by simp [codec_PutInt.l0])
     | succ k2 =>
      have H := HA.out
      clear HA
      simp only [codec_PutInt.l0] at H
      by_cases c13 : x8_2 ≥ 0
      ·
       rw [if_pos c13] at H
       have c13b0 : decide (0 ≤ x8_2) = true := decide_eq_true c13
       clear c13
       by_cases c14 : 0 ≤ x8_2
       ·
        rw [if_pos c14] at H
        have c14b0 := eq_true c14
        have c14b1 : decide (0 ≤ x8_2) = true := decide_eq_true c14
        clear c14
        obtain ⟨ji15, hji15⟩ : ∃ j_ : Int, (shr .i64 x1_4 x8_2) = j_ := ⟨_, rfl⟩
        replace H : (if x0_2.length < 140737488355328 then (codec_PutInt.l0 k2 (x0_2 ++ [Go.bits .xor .u8 ((ji15) % 256) x7_4]) x1_4 x7_4 (wrap64 (x8_2 - 8))) else (none)) = some r := by first | (rw [hji15] at H; first | done | exact H) | (simp only [hji15] at H ⊢; exact H)
        have hji15_ : (x1_4 / 2 ^ min x8_2.toNat 64) = ji15 := hji15
        have hji15z : x8_2 ≤ 64 → (x1_4 / 2 ^ x8_2.toNat) = ji15 := shr_small hji15
        by_cases c16 : x0_2.length < 140737488355328
        ·
         rw [if_pos c16] at H
         have LMc16 := Aside0.mk c16
         clear c16
         obtain ⟨y148, hy148⟩ : ∃ y_ : List Int, y_ = (x0_2 ++ [Go.bits .xor .u8 ((ji15) % 256) x7_4]) := ⟨_, rfl⟩
         replace H : (codec_PutInt.l0 k2 y148 x1_4 x7_4 (wrap64 (x8_2 - 8))) = some r := by first | (rw [hy148]; with_reducible exact H) | (have H2_ := (Option.bind_some _ _).symm.trans H; rw [hy148]; with_reducible exact H2_) | (have H2_ := (Option.bind_some _ _).symm.trans H; with_reducible exact H2_) | with_reducible exact H | (rw [hy148]; exact H) | exact H
         have Ny148 := Aside0.mk hy148
         clear hy148
         have H' := Aside0.mk H
         clear H
         go_wp2_with (first | ((with_reducible refine gate_builtin (b := .append) (xs := #[.tmp 44, .tmp 51]) rfl ?_); at_builtin; refine Kd.R_append (Kd.int .u8) (w0 := w) w.heap.size rfl (.tmp 44) (.tmp 51) 42 5 (.int .u8 0) 1 rfl Try.underlying42 info5 rfl (by decide) (by omega) u0 x0_2 (Go.bits .xor .u8 ((ji15) % 256) x7_4) [.int .u8 (Go.bits .xor .u8 ((ji15) % 256) x7_4)] (fun _ => True) (fun _ => False) rfl rfl ?aP (fun _ hk => hk.elim) ?aF ?aO ?aB ?aS ?aL ?_; (case aP => exact rfl); (case aB => exact (by repeat (first | (with_reducible first | exact HB.out | apply below_alloc | apply pw_below_drewN | apply below_drew1) | exact HB.out))); (case aF => exact (fun _ _ => trivial)); (case aO => exact (by (with_reducible repeat (first | apply Kd.R_alloc | apply Kd.R_drewN | apply Kd.R_drew)); exact HO_0.out)); (case aS => exact (below_size (by repeat (first | (with_reducible first | exact HB.out | apply below_alloc | apply pw_below_drewN | apply below_drew1) | exact HB.out)))); (case aL => have := LMc16.out; omega); intro v149 w17 ho hb hg hat; rw [← Ny148.out] at ho; have n0_ := Aside0.mk (hb); have n1_ := Aside0.mk (ho); clear HB; clear HO_0; have HB := n0_; have HO150 := n1_; clear n0_ n1_; clear ho hb hg hat))
         go_roundg k2
         case measure => have := HJ4.out; have := HK2.out; omega
         case rel => exact ⟨(y148), (wrap64 (x8_2 - 8)), (by first | rfl | (simp; done) | (simp [*]; done)), H', ⟨by have := HJ4.out; have := HK2.out; omega⟩, ⟨by (with_reducible repeat (first | apply Kd.R_alloc | apply Kd.R_drewN | apply Kd.R_drew)); exact HO150.out⟩, ⟨by repeat (first | (with_reducible first | exact HB.out | apply below_alloc | apply pw_below_drewN | apply below_drew1) | exact HB.out)⟩⟩
        ·
         rw [if_neg c16] at H
         exact absurd H (by simp)
       ·
        rw [if_neg c14] at H
        exact absurd H (by simp)
      ·
       rw [if_neg c13] at H
       have c13b0 : decide (0 ≤ x8_2) = false := decide_eq_false c13
       clear c13
       obtain rfl := Option.some.inj H
       go_wp2
       go_ret
       exact ⟨_, by first | rfl | (simp [errW_none, errW_some] <;> rfl) | (simp [*, errW_none, errW_some] <;> rfl), by (with_reducible repeat (first | apply Kd.R_alloc | apply Kd.R_drewN | apply Kd.R_drew)); exact HO_0.out, by repeat (first | (with_reducible first | exact HB.out | apply below_alloc | apply pw_below_drewN | apply below_drew1) | exact HB.out)⟩
   ·
    rw [if_neg c11] at H
    exact absurd H (by simp)

end Go.Proofs.Ytkcdmoghnoodmaa.B

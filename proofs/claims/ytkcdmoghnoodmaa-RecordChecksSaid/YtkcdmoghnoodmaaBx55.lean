-- Written by a program of this session (wip/print2) out of Lean's print of the translation. Not trusted: Lean checks it.
import Derived.Test.YtkcdmoghnoodmaaBx0
import Derived.Test.YtkcdmoghnoodmaaBx51
import Derived.Test.YtkcdmoghnoodmaaBx54
namespace Go.Proofs.Ytkcdmoghnoodmaa.B
open Go.RowKit Go.Proofs.YtkcdmoghnoodmaaW.PrintWords Go.Proofs.YtkcdmoghnoodmaaW.PrintLast Go.Proofs.YtkcdmoghnoodmaaW.PrintMore Go.Proofs.YtkcdmoghnoodmaaW.Mine
attribute [local go_sem] max2_int min2_int max_two min_two max_three min_three max_four min_four str_gtr str_leq str_geq str_max str_min   -- for this text's walks alone
set_option linter.unusedVariables false
set_option linter.unusedSimpArgs false

/-! ### cressetref03_CheckMaster: function 23 -/
def cressetref03_CheckMaster.j0 : Nat → Bool → Int → Int → Int → Int → Int → Int → Int → Int → Option (Int)
  | 0, _, _, _, _, _, _, _, _, _ => none
  | k + 1, x32, x368000, x368001, x368002, x368003, x368004, x368005, x368006, x368007 => if x32 = true then (some 32) else ((cressetref03_nought.f x368004).bind fun t370 => (if t370 = true then ((cressetref03_nought.f x368006).bind fun t371 => (if t371 = true then ((cressetref03_nought.f x368007).bind fun t372 => (if t372 = true then (if x368005 < 0 then (some 32) else (if x368005 ≥ 512 then (some 32) else (some 0))) else (some 32))) else (some 32))) else (some 32)))
def cressetref03_CheckMaster.f (k : Nat) (a0_0 : Int) (a0_1 : Int) (a0_2 : Int) (a0_3 : Int) (a0_4 : Int) (a0_5 : Int) (a0_6 : Int) (a0_7 : Int) : Option (Int) := (cressetref03_ts.f a0_0).bind fun t368 => (if t368 = true then (if a0_1 < 0 then (cressetref03_CheckMaster.j0 k true a0_0 a0_1 a0_2 a0_3 a0_4 a0_5 a0_6 a0_7) else (if a0_1 > 1 then (cressetref03_CheckMaster.j0 k true a0_0 a0_1 a0_2 a0_3 a0_4 a0_5 a0_6 a0_7) else (if a0_2 < 1 then (cressetref03_CheckMaster.j0 k true a0_0 a0_1 a0_2 a0_3 a0_4 a0_5 a0_6 a0_7) else (if a0_2 > 4096 then (cressetref03_CheckMaster.j0 k true a0_0 a0_1 a0_2 a0_3 a0_4 a0_5 a0_6 a0_7) else ((cressetref03_nought.f a0_3).bind fun t369 => (cressetref03_CheckMaster.j0 k (!t369) a0_0 a0_1 a0_2 a0_3 a0_4 a0_5 a0_6 a0_7)))))) else (cressetref03_CheckMaster.j0 k true a0_0 a0_1 a0_2 a0_3 a0_4 a0_5 a0_6 a0_7))
theorem cressetref03_CheckMaster.mono_l : ∀ k, (∀ y0 y1 y2 y3 y4 y5 y6 y7 y8, LeO (cressetref03_CheckMaster.j0 k y0 y1 y2 y3 y4 y5 y6 y7 y8) (cressetref03_CheckMaster.j0 (k + 1) y0 y1 y2 y3 y4 y5 y6 y7 y8))
  | 0 => fun _ _ _ _ _ _ _ _ _ r h => by simp [cressetref03_CheckMaster.j0] at h
  | k + 1 => by
    have ih0 := cressetref03_CheckMaster.mono_l k
    · intro y0 y1 y2 y3 y4 y5 y6 y7 y8
      unfold cressetref03_CheckMaster.j0
      repeat' first
      | (with_reducible exact ih0 _ _ _ _ _ _ _ _ _)
      | (with_reducible exact LeO.refl _)
      | (with_reducible exact LeO.none _)
      | (with_reducible refine LeO.ite ?_ ?_)
      | (with_reducible refine LeO.bind ?_ (fun _ => ?_))
      | exact ih0 _ _ _ _ _ _ _ _ _
      | exact LeO.none _
      | refine LeO.ite ?_ ?_
      | refine LeO.bind ?_ (fun _ => ?_)
theorem cressetref03_CheckMaster.mono : ∀ a0 a1 a2 a3 a4 a5 a6 a7 k, LeO (cressetref03_CheckMaster.f k a0 a1 a2 a3 a4 a5 a6 a7) (cressetref03_CheckMaster.f (k + 1) a0 a1 a2 a3 a4 a5 a6 a7) := by
  intro a0 a1 a2 a3 a4 a5 a6 a7 k
  have ih0 := cressetref03_CheckMaster.mono_l k
  unfold cressetref03_CheckMaster.f
  repeat' first
      | (with_reducible exact ih0 _ _ _ _ _ _ _ _ _)
      | (with_reducible exact LeO.refl _)
      | (with_reducible exact LeO.none _)
      | (with_reducible refine LeO.ite ?_ ?_)
      | (with_reducible refine LeO.bind ?_ (fun _ => ?_))
      | exact ih0 _ _ _ _ _ _ _ _ _
      | exact LeO.none _
      | refine LeO.ite ?_ ?_
      | refine LeO.bind ?_ (fun _ => ?_)
set_option maxHeartbeats 8000000 in
set_option maxRecDepth 100000 in
theorem cressetref03_CheckMaster.calls (k : Nat) (a0_0 : Int) (a0_1 : Int) (a0_2 : Int) (a0_3 : Int) (a0_4 : Int) (a0_5 : Int) (a0_6 : Int) (a0_7 : Int) (r : Int) (w : World) (h : cressetref03_CheckMaster.f k a0_0 a0_1 a0_2 a0_3 a0_4 a0_5 a0_6 a0_7 = some r) :
    Calls Try.prog 23 #[.agg #[.int .i64 a0_0, .int .i64 a0_1, .int .i64 a0_2, .int .i64 a0_3, .int .i64 a0_4, .int .i64 a0_5, .int .i64 a0_6, .int .i64 a0_7]] w fun e w' => e = .returned (.int .i64 r) ∧ Below w.heap.size w w' := by
 have hu31 := Try.underlying31
 have HB := Aside0.mk (Below.refl w.heap.size w)
 have H : ((cressetref03_ts.f a0_0).bind fun t368 => (if t368 = true then (if a0_1 < 0 then (cressetref03_CheckMaster.j0 k true a0_0 a0_1 a0_2 a0_3 a0_4 a0_5 a0_6 a0_7) else (if a0_1 > 1 then (cressetref03_CheckMaster.j0 k true a0_0 a0_1 a0_2 a0_3 a0_4 a0_5 a0_6 a0_7) else (if a0_2 < 1 then (cressetref03_CheckMaster.j0 k true a0_0 a0_1 a0_2 a0_3 a0_4 a0_5 a0_6 a0_7) else (if a0_2 > 4096 then (cressetref03_CheckMaster.j0 k true a0_0 a0_1 a0_2 a0_3 a0_4 a0_5 a0_6 a0_7) else ((cressetref03_nought.f a0_3).bind fun t369 => (cressetref03_CheckMaster.j0 k (!t369) a0_0 a0_1 a0_2 a0_3 a0_4 a0_5 a0_6 a0_7)))))) else (cressetref03_CheckMaster.j0 k true a0_0 a0_1 a0_2 a0_3 a0_4 a0_5 a0_6 a0_7))) = some r := h
 clear h
 have HC2 := Aside0.mk H
 clear H
 go_enter Try.func23, Try.ntmps23
 go_upto_region 1 with (first | ((with_reducible refine gate_dst (N := 1) rfl ?_); refine box_event ?hg (N := 1) ?hd (cs := #[.int .i64 a0_0, .int .i64 a0_1, .int .i64 a0_2, .int .i64 a0_3, .int .i64 a0_4, .int .i64 a0_5, .int .i64 a0_6, .int .i64 a0_7]) (t := 31) ?hr ?_; (case hd => rfl); (case hg => rfl); (case hr => first | (go_simp; done) | (go_simp; rfl)); intro gb367 hg w3 hbox hb; have n0_ := Aside0.mk (below_step (by repeat (first | (with_reducible first | exact HB.out | apply below_alloc | apply pw_below_drewN | apply below_drew1) | exact HB.out)) hb); have n1_ := Aside0.mk (hbox); have n2_ := Aside0.mk ((by rw [hg]; exact (below_size (by repeat (first | (with_reducible first | exact HB.out | apply below_alloc | apply pw_below_drewN | apply below_drew1) | exact HB.out))) : w.heap.size ≤ gb367)); have n3_ := Aside0.mk ((by rw [hg]; exact (below_size (by repeat (first | (with_reducible first | exact HB.out | apply below_alloc | apply pw_below_drewN | apply below_drew1) | exact HB.out))) : w.heap.size ≤ gb367)); clear HB; have HB := n0_; have BK367 := n1_; have GW367 := n2_; have GE367 := n3_; clear n0_ n1_ n2_ n3_; clear hb hbox hg))
 (try simp only [Act.put, List.setIfInBounds_toArray, List.set_cons_zero, List.set_cons_succ])
 go_cut [32] (fun v32 wc => ∃ (kq : Nat) (x32_1 : Bool), v32 = .bool x32_1 ∧ Aside0 (cressetref03_CheckMaster.j0 kq x32_1 a0_0 a0_1 a0_2 a0_3 a0_4 a0_5 a0_6 a0_7 = some r) ∧ Aside0 (kq ≤ k) ∧ Aside0 (wc.heap[gb367]? = some (.cells #[.int .i64 a0_0, .int .i64 a0_1, .int .i64 a0_2, .int .i64 a0_3, .int .i64 a0_4, .int .i64 a0_5, .int .i64 a0_6, .int .i64 a0_7] 31 (0, 0))) ∧ Aside0 (Below w.heap.size w wc))
 case first =>
  have H := HC2.out
  clear HC2
  replace H := Option.bind_eq_some_iff.mp H
  obtain ⟨t368, A40, H⟩ := H
  replace H : (if t368 = true then (if a0_1 < 0 then (cressetref03_CheckMaster.j0 k true a0_0 a0_1 a0_2 a0_3 a0_4 a0_5 a0_6 a0_7) else (if a0_1 > 1 then (cressetref03_CheckMaster.j0 k true a0_0 a0_1 a0_2 a0_3 a0_4 a0_5 a0_6 a0_7) else (if a0_2 < 1 then (cressetref03_CheckMaster.j0 k true a0_0 a0_1 a0_2 a0_3 a0_4 a0_5 a0_6 a0_7) else (if a0_2 > 4096 then (cressetref03_CheckMaster.j0 k true a0_0 a0_1 a0_2 a0_3 a0_4 a0_5 a0_6 a0_7) else ((cressetref03_nought.f a0_3).bind fun t369 => (cressetref03_CheckMaster.j0 k (!t369) a0_0 a0_1 a0_2 a0_3 a0_4 a0_5 a0_6 a0_7)))))) else (cressetref03_CheckMaster.j0 k true a0_0 a0_1 a0_2 a0_3 a0_4 a0_5 a0_6 a0_7)) = some r := H
  have A4 := Aside0.mk A40
  clear A40
  by_cases c5 : t368 = true
  ·
   subst c5
   have H1 : (if a0_1 < 0 then (cressetref03_CheckMaster.j0 k true a0_0 a0_1 a0_2 a0_3 a0_4 a0_5 a0_6 a0_7) else (if a0_1 > 1 then (cressetref03_CheckMaster.j0 k true a0_0 a0_1 a0_2 a0_3 a0_4 a0_5 a0_6 a0_7) else (if a0_2 < 1 then (cressetref03_CheckMaster.j0 k true a0_0 a0_1 a0_2 a0_3 a0_4 a0_5 a0_6 a0_7) else (if a0_2 > 4096 then (cressetref03_CheckMaster.j0 k true a0_0 a0_1 a0_2 a0_3 a0_4 a0_5 a0_6 a0_7) else ((cressetref03_nought.f a0_3).bind fun t369 => (cressetref03_CheckMaster.j0 k (!t369) a0_0 a0_1 a0_2 a0_3 a0_4 a0_5 a0_6 a0_7)))))) = some r := by rw [if_pos rfl] at H; first | done | exact H
   clear H
   have H := H1
   clear H1
   by_cases c6 : a0_1 < 0
   ·
    rw [if_pos c6] at H
    have c6b0 : decide (a0_1 < 0) = true := decide_eq_true c6
    clear c6
    (first | rw [c6b0] | (simp only [i64_w, i32_w]; rw [c6b0]) | skip)
    have H' := Aside0.mk H
    clear H
    have hcz7_0 : w3.cell? ⟨gb367, 0, none⟩ = some (.int .i64 a0_0) := (blk_cell BK367.out 0).trans rfl
    have hcz7_1 : w3.cell? ⟨gb367, 1, none⟩ = some (.int .i64 a0_1) := (blk_cell BK367.out 1).trans rfl
    have hcz7_2 : w3.cell? ⟨gb367, 2, none⟩ = some (.int .i64 a0_2) := (blk_cell BK367.out 2).trans rfl
    have hcz7_3 : w3.cell? ⟨gb367, 3, none⟩ = some (.int .i64 a0_3) := (blk_cell BK367.out 3).trans rfl
    have hcz7_4 : w3.cell? ⟨gb367, 4, none⟩ = some (.int .i64 a0_4) := (blk_cell BK367.out 4).trans rfl
    have hcz7_5 : w3.cell? ⟨gb367, 5, none⟩ = some (.int .i64 a0_5) := (blk_cell BK367.out 5).trans rfl
    have hcz7_6 : w3.cell? ⟨gb367, 6, none⟩ = some (.int .i64 a0_6) := (blk_cell BK367.out 6).trans rfl
    have hcz7_7 : w3.cell? ⟨gb367, 7, none⟩ = some (.int .i64 a0_7) := (blk_cell BK367.out 7).trans rfl
    have hfz7_0 := blk_frozen BK367.out 0
    have hfz7_1 := blk_frozen BK367.out 1
    have hfz7_2 := blk_frozen BK367.out 2
    have hfz7_3 := blk_frozen BK367.out 3
    have hfz7_4 := blk_frozen BK367.out 4
    have hfz7_5 := blk_frozen BK367.out 5
    have hfz7_6 := blk_frozen BK367.out 6
    have hfz7_7 := blk_frozen BK367.out 7
    go_wp2_with (first | ((with_reducible refine gate_callee (f := 49) rfl ?_); refine goesL_ (some 5) rfl rfl Try.func49 (by kernel_rfl) rfl #[.int .i64 a0_0] rfl (by (try simp only [List.map_toArray, List.map_cons, List.map_nil]); first | done | rfl | (simp only [List.length_drop, List.length_take]; rfl)) ?_; (with_reducible refine (cressetref03_ts.calls a0_0 true _ A4.out).mono ?_); rintro e w' ⟨rfl, ⟨nd, rfl⟩⟩; refine ⟨_, rfl, ?_⟩))
    go_meet
    case rel => exact ⟨_, (true), (by first | rfl | (simp; done) | (simp [*]; done)), H', ⟨by first | omega | exact Nat.le_refl _⟩, ⟨by (with_reducible repeat (first | refine blk_drewN ?_ _ | refine blk_drew ?_ | refine blk_alloc ?_ _)); exact BK367.out⟩, ⟨by repeat (first | (with_reducible first | exact HB.out | apply below_alloc | apply pw_below_drewN | apply below_drew1 | refine below_set ?_ GE367.out) | exact HB.out)⟩⟩
   ·
    rw [if_neg c6] at H
    have c6b0 : decide (a0_1 < 0) = false := decide_eq_false c6
    clear c6
    (first | rw [c6b0] | (simp only [i64_w, i32_w]; rw [c6b0]) | skip)
    by_cases c8 : a0_1 > 1
    ·
     rw [if_pos c8] at H
     have c8b0 : decide (1 < a0_1) = true := decide_eq_true c8
     clear c8
     have H' := Aside0.mk H
     clear H
     have hcz9_0 : w3.cell? ⟨gb367, 0, none⟩ = some (.int .i64 a0_0) := (blk_cell BK367.out 0).trans rfl
     have hcz9_1 : w3.cell? ⟨gb367, 1, none⟩ = some (.int .i64 a0_1) := (blk_cell BK367.out 1).trans rfl
     have hcz9_2 : w3.cell? ⟨gb367, 2, none⟩ = some (.int .i64 a0_2) := (blk_cell BK367.out 2).trans rfl
     have hcz9_3 : w3.cell? ⟨gb367, 3, none⟩ = some (.int .i64 a0_3) := (blk_cell BK367.out 3).trans rfl
     have hcz9_4 : w3.cell? ⟨gb367, 4, none⟩ = some (.int .i64 a0_4) := (blk_cell BK367.out 4).trans rfl
     have hcz9_5 : w3.cell? ⟨gb367, 5, none⟩ = some (.int .i64 a0_5) := (blk_cell BK367.out 5).trans rfl
     have hcz9_6 : w3.cell? ⟨gb367, 6, none⟩ = some (.int .i64 a0_6) := (blk_cell BK367.out 6).trans rfl
     have hcz9_7 : w3.cell? ⟨gb367, 7, none⟩ = some (.int .i64 a0_7) := (blk_cell BK367.out 7).trans rfl
     have hfz9_0 := blk_frozen BK367.out 0
     have hfz9_1 := blk_frozen BK367.out 1
     have hfz9_2 := blk_frozen BK367.out 2
     have hfz9_3 := blk_frozen BK367.out 3
     have hfz9_4 := blk_frozen BK367.out 4
     have hfz9_5 := blk_frozen BK367.out 5
     have hfz9_6 := blk_frozen BK367.out 6
     have hfz9_7 := blk_frozen BK367.out 7
     go_wp2_with (first | ((with_reducible refine gate_callee (f := 49) rfl ?_); refine goesL_ (some 5) rfl rfl Try.func49 (by kernel_rfl) rfl #[.int .i64 a0_0] rfl (by (try simp only [List.map_toArray, List.map_cons, List.map_nil]); first | done | rfl | (simp only [List.length_drop, List.length_take]; rfl)) ?_; (with_reducible refine (cressetref03_ts.calls a0_0 true _ A4.out).mono ?_); rintro e w' ⟨rfl, ⟨nd, rfl⟩⟩; refine ⟨_, rfl, ?_⟩))
     go_meet
     case rel => exact ⟨_, (true), (by first | rfl | (simp; done) | (simp [*]; done)), H', ⟨by first | omega | exact Nat.le_refl _⟩, ⟨by (with_reducible repeat (first | refine blk_drewN ?_ _ | refine blk_drew ?_ | refine blk_alloc ?_ _)); exact BK367.out⟩, ⟨by repeat (first | (with_reducible first | exact HB.out | apply below_alloc | apply pw_below_drewN | apply below_drew1 | refine below_set ?_ GE367.out) | exact HB.out)⟩⟩
    ·
     rw [if_neg c8] at H
     have c8b0 : decide (1 < a0_1) = false := decide_eq_false c8
     clear c8
     by_cases c10 : a0_2 < 1
     ·
      rw [if_pos c10] at H
      have c10b0 : decide (a0_2 < 1) = true := decide_eq_true c10
      clear c10
      have H' := Aside0.mk H
      clear H
      have hcz11_0 : w3.cell? ⟨gb367, 0, none⟩ = some (.int .i64 a0_0) := (blk_cell BK367.out 0).trans rfl
      have hcz11_1 : w3.cell? ⟨gb367, 1, none⟩ = some (.int .i64 a0_1) := (blk_cell BK367.out 1).trans rfl
      have hcz11_2 : w3.cell? ⟨gb367, 2, none⟩ = some (.int .i64 a0_2) := (blk_cell BK367.out 2).trans rfl
      have hcz11_3 : w3.cell? ⟨gb367, 3, none⟩ = some (.int .i64 a0_3) := (blk_cell BK367.out 3).trans rfl
      have hcz11_4 : w3.cell? ⟨gb367, 4, none⟩ = some (.int .i64 a0_4) := (blk_cell BK367.out 4).trans rfl
      have hcz11_5 : w3.cell? ⟨gb367, 5, none⟩ = some (.int .i64 a0_5) := (blk_cell BK367.out 5).trans rfl
      have hcz11_6 : w3.cell? ⟨gb367, 6, none⟩ = some (.int .i64 a0_6) := (blk_cell BK367.out 6).trans rfl
      have hcz11_7 : w3.cell? ⟨gb367, 7, none⟩ = some (.int .i64 a0_7) := (blk_cell BK367.out 7).trans rfl
      have hfz11_0 := blk_frozen BK367.out 0
      have hfz11_1 := blk_frozen BK367.out 1
      have hfz11_2 := blk_frozen BK367.out 2
      have hfz11_3 := blk_frozen BK367.out 3
      have hfz11_4 := blk_frozen BK367.out 4
      have hfz11_5 := blk_frozen BK367.out 5
      have hfz11_6 := blk_frozen BK367.out 6
      have hfz11_7 := blk_frozen BK367.out 7
      go_wp2_with (first | ((with_reducible refine gate_callee (f := 49) rfl ?_); refine goesL_ (some 5) rfl rfl Try.func49 (by kernel_rfl) rfl #[.int .i64 a0_0] rfl (by (try simp only [List.map_toArray, List.map_cons, List.map_nil]); first | done | rfl | (simp only [List.length_drop, List.length_take]; rfl)) ?_; (with_reducible refine (cressetref03_ts.calls a0_0 true _ A4.out).mono ?_); rintro e w' ⟨rfl, ⟨nd, rfl⟩⟩; refine ⟨_, rfl, ?_⟩))
      go_meet
      case rel => exact ⟨_, (true), (by first | rfl | (simp; done) | (simp [*]; done)), H', ⟨by first | omega | exact Nat.le_refl _⟩, ⟨by (with_reducible repeat (first | refine blk_drewN ?_ _ | refine blk_drew ?_ | refine blk_alloc ?_ _)); exact BK367.out⟩, ⟨by repeat (first | (with_reducible first | exact HB.out | apply below_alloc | apply pw_below_drewN | apply below_drew1 | refine below_set ?_ GE367.out) | exact HB.out)⟩⟩
     ·
      rw [if_neg c10] at H
      have c10b0 : decide (a0_2 < 1) = false := decide_eq_false c10
      clear c10
      by_cases c12 : a0_2 > 4096
      ·
       rw [if_pos c12] at H
       have c12b0 : decide (4096 < a0_2) = true := decide_eq_true c12
       clear c12
       have H' := Aside0.mk H
       clear H
       have hcz13_0 : w3.cell? ⟨gb367, 0, none⟩ = some (.int .i64 a0_0) := (blk_cell BK367.out 0).trans rfl
       have hcz13_1 : w3.cell? ⟨gb367, 1, none⟩ = some (.int .i64 a0_1) := (blk_cell BK367.out 1).trans rfl
       have hcz13_2 : w3.cell? ⟨gb367, 2, none⟩ = some (.int .i64 a0_2) := (blk_cell BK367.out 2).trans rfl
       have hcz13_3 : w3.cell? ⟨gb367, 3, none⟩ = some (.int .i64 a0_3) := (blk_cell BK367.out 3).trans rfl
       have hcz13_4 : w3.cell? ⟨gb367, 4, none⟩ = some (.int .i64 a0_4) := (blk_cell BK367.out 4).trans rfl
       have hcz13_5 : w3.cell? ⟨gb367, 5, none⟩ = some (.int .i64 a0_5) := (blk_cell BK367.out 5).trans rfl
       have hcz13_6 : w3.cell? ⟨gb367, 6, none⟩ = some (.int .i64 a0_6) := (blk_cell BK367.out 6).trans rfl
       have hcz13_7 : w3.cell? ⟨gb367, 7, none⟩ = some (.int .i64 a0_7) := (blk_cell BK367.out 7).trans rfl
       have hfz13_0 := blk_frozen BK367.out 0
       have hfz13_1 := blk_frozen BK367.out 1
       have hfz13_2 := blk_frozen BK367.out 2
       have hfz13_3 := blk_frozen BK367.out 3
       have hfz13_4 := blk_frozen BK367.out 4
       have hfz13_5 := blk_frozen BK367.out 5
       have hfz13_6 := blk_frozen BK367.out 6
       have hfz13_7 := blk_frozen BK367.out 7
       go_wp2_with (first | ((with_reducible refine gate_callee (f := 49) rfl ?_); refine goesL_ (some 5) rfl rfl Try.func49 (by kernel_rfl) rfl #[.int .i64 a0_0] rfl (by (try simp only [List.map_toArray, List.map_cons, List.map_nil]); first | done | rfl | (simp only [List.length_drop, List.length_take]; rfl)) ?_; (with_reducible refine (cressetref03_ts.calls a0_0 true _ A4.out).mono ?_); rintro e w' ⟨rfl, ⟨nd, rfl⟩⟩; refine ⟨_, rfl, ?_⟩))
       go_meet
       case rel => exact ⟨_, (true), (by first | rfl | (simp; done) | (simp [*]; done)), H', ⟨by first | omega | exact Nat.le_refl _⟩, ⟨by (with_reducible repeat (first | refine blk_drewN ?_ _ | refine blk_drew ?_ | refine blk_alloc ?_ _)); exact BK367.out⟩, ⟨by repeat (first | (with_reducible first | exact HB.out | apply below_alloc | apply pw_below_drewN | apply below_drew1 | refine below_set ?_ GE367.out) | exact HB.out)⟩⟩
      ·
       rw [if_neg c12] at H
       have c12b0 : decide (4096 < a0_2) = false := decide_eq_false c12
       clear c12
       replace H := Option.bind_eq_some_iff.mp H
       obtain ⟨t369, A140, H⟩ := H
       replace H : (cressetref03_CheckMaster.j0 k (!t369) a0_0 a0_1 a0_2 a0_3 a0_4 a0_5 a0_6 a0_7) = some r := H
       have A14 := Aside0.mk A140
       clear A140
       have H' := Aside0.mk H
       clear H
       have hcz15_0 : w3.cell? ⟨gb367, 0, none⟩ = some (.int .i64 a0_0) := (blk_cell BK367.out 0).trans rfl
       have hcz15_1 : w3.cell? ⟨gb367, 1, none⟩ = some (.int .i64 a0_1) := (blk_cell BK367.out 1).trans rfl
       have hcz15_2 : w3.cell? ⟨gb367, 2, none⟩ = some (.int .i64 a0_2) := (blk_cell BK367.out 2).trans rfl
       have hcz15_3 : w3.cell? ⟨gb367, 3, none⟩ = some (.int .i64 a0_3) := (blk_cell BK367.out 3).trans rfl
       have hcz15_4 : w3.cell? ⟨gb367, 4, none⟩ = some (.int .i64 a0_4) := (blk_cell BK367.out 4).trans rfl
       have hcz15_5 : w3.cell? ⟨gb367, 5, none⟩ = some (.int .i64 a0_5) := (blk_cell BK367.out 5).trans rfl
       have hcz15_6 : w3.cell? ⟨gb367, 6, none⟩ = some (.int .i64 a0_6) := (blk_cell BK367.out 6).trans rfl
       have hcz15_7 : w3.cell? ⟨gb367, 7, none⟩ = some (.int .i64 a0_7) := (blk_cell BK367.out 7).trans rfl
       have hfz15_0 := blk_frozen BK367.out 0
       have hfz15_1 := blk_frozen BK367.out 1
       have hfz15_2 := blk_frozen BK367.out 2
       have hfz15_3 := blk_frozen BK367.out 3
       have hfz15_4 := blk_frozen BK367.out 4
       have hfz15_5 := blk_frozen BK367.out 5
       have hfz15_6 := blk_frozen BK367.out 6
       have hfz15_7 := blk_frozen BK367.out 7
       go_wp2_with (first | ((with_reducible refine gate_callee (f := 49) rfl ?_); refine goesL_ (some 5) rfl rfl Try.func49 (by kernel_rfl) rfl #[.int .i64 a0_0] rfl (by (try simp only [List.map_toArray, List.map_cons, List.map_nil]); first | done | rfl | (simp only [List.length_drop, List.length_take]; rfl)) ?_; (with_reducible refine (cressetref03_ts.calls a0_0 true _ A4.out).mono ?_); rintro e w' ⟨rfl, ⟨nd, rfl⟩⟩; refine ⟨_, rfl, ?_⟩) | (go_at_call 50; (with_reducible refine (cressetref03_nought.calls a0_3 t369 _ A14.out).mono ?_); rintro e w' ⟨rfl, ⟨nd, rfl⟩⟩))
       go_meet
       case rel => exact ⟨_, (!t369), (by first | rfl | (simp; done) | (simp [*]; done)), H', ⟨by first | omega | exact Nat.le_refl _⟩, ⟨by (with_reducible repeat (first | refine blk_drewN ?_ _ | refine blk_drew ?_ | refine blk_alloc ?_ _)); exact BK367.out⟩, ⟨by repeat (first | (with_reducible first | exact HB.out | apply below_alloc | apply pw_below_drewN | apply below_drew1 | refine below_set ?_ GE367.out) | exact HB.out)⟩⟩
  ·
   replace c5 := Bool.eq_false_iff.mpr c5
   subst c5
   have H1 : (cressetref03_CheckMaster.j0 k true a0_0 a0_1 a0_2 a0_3 a0_4 a0_5 a0_6 a0_7) = some r := by rw [if_neg (show ¬ (false = true) by decide)] at H; first | done | exact H
   clear H
   have H := H1
   clear H1
   have H' := Aside0.mk H
   clear H
   have hcz16_0 : w3.cell? ⟨gb367, 0, none⟩ = some (.int .i64 a0_0) := (blk_cell BK367.out 0).trans rfl
   have hcz16_1 : w3.cell? ⟨gb367, 1, none⟩ = some (.int .i64 a0_1) := (blk_cell BK367.out 1).trans rfl
   have hcz16_2 : w3.cell? ⟨gb367, 2, none⟩ = some (.int .i64 a0_2) := (blk_cell BK367.out 2).trans rfl
   have hcz16_3 : w3.cell? ⟨gb367, 3, none⟩ = some (.int .i64 a0_3) := (blk_cell BK367.out 3).trans rfl
   have hcz16_4 : w3.cell? ⟨gb367, 4, none⟩ = some (.int .i64 a0_4) := (blk_cell BK367.out 4).trans rfl
   have hcz16_5 : w3.cell? ⟨gb367, 5, none⟩ = some (.int .i64 a0_5) := (blk_cell BK367.out 5).trans rfl
   have hcz16_6 : w3.cell? ⟨gb367, 6, none⟩ = some (.int .i64 a0_6) := (blk_cell BK367.out 6).trans rfl
   have hcz16_7 : w3.cell? ⟨gb367, 7, none⟩ = some (.int .i64 a0_7) := (blk_cell BK367.out 7).trans rfl
   have hfz16_0 := blk_frozen BK367.out 0
   have hfz16_1 := blk_frozen BK367.out 1
   have hfz16_2 := blk_frozen BK367.out 2
   have hfz16_3 := blk_frozen BK367.out 3
   have hfz16_4 := blk_frozen BK367.out 4
   have hfz16_5 := blk_frozen BK367.out 5
   have hfz16_6 := blk_frozen BK367.out 6
   have hfz16_7 := blk_frozen BK367.out 7
   go_wp2_with (first | ((with_reducible refine gate_callee (f := 49) rfl ?_); refine goesL_ (some 5) rfl rfl Try.func49 (by kernel_rfl) rfl #[.int .i64 a0_0] rfl (by (try simp only [List.map_toArray, List.map_cons, List.map_nil]); first | done | rfl | (simp only [List.length_drop, List.length_take]; rfl)) ?_; (with_reducible refine (cressetref03_ts.calls a0_0 false _ A4.out).mono ?_); rintro e w' ⟨rfl, ⟨nd, rfl⟩⟩; refine ⟨_, rfl, ?_⟩))
   go_meet
   case rel => exact ⟨_, (true), (by first | rfl | (simp; done) | (simp [*]; done)), H', ⟨by first | omega | exact Nat.le_refl _⟩, ⟨by (with_reducible repeat (first | refine blk_drewN ?_ _ | refine blk_drew ?_ | refine blk_alloc ?_ _)); exact BK367.out⟩, ⟨by repeat (first | (with_reducible first | exact HB.out | apply below_alloc | apply pw_below_drewN | apply below_drew1 | refine below_set ?_ GE367.out) | exact HB.out)⟩⟩
 case rest =>
  clear HC2
  try clear c1
  try clear c2
  try clear p2
  try clear c4
  try clear c5
  try clear c6
  try clear c6b0
  try clear c8
  try clear c8b0
  try clear c10
  try clear c10b0
  try clear c12
  try clear c12b0
  try clear hcz11_0
  try clear hcz11_1
  try clear hcz11_2
  try clear hcz11_3
  try clear hcz11_4
  try clear hcz11_5
  try clear hcz11_6
  try clear hcz11_7
  try clear hcz13_0
  try clear hcz13_1
  try clear hcz13_2
  try clear hcz13_3
  try clear hcz13_4
  try clear hcz13_5
  try clear hcz13_6
  try clear hcz13_7
  try clear hcz15_0
  try clear hcz15_1
  try clear hcz15_2
  try clear hcz15_3
  try clear hcz15_4
  try clear hcz15_5
  try clear hcz15_6
  try clear hcz15_7
  try clear hcz16_0
  try clear hcz16_1
  try clear hcz16_2
  try clear hcz16_3
  try clear hcz16_4
  try clear hcz16_5
  try clear hcz16_6
  try clear hcz16_7
  try clear hcz7_0
  try clear hcz7_1
  try clear hcz7_2
  try clear hcz7_3
  try clear hcz7_4
  try clear hcz7_5
  try clear hcz7_6
  try clear hcz7_7
  try clear hcz9_0
  try clear hcz9_1
  try clear hcz9_2
  try clear hcz9_3
  try clear hcz9_4
  try clear hcz9_5
  try clear hcz9_6
  try clear hcz9_7
  try clear hfz11_0
  try clear hfz11_1
  try clear hfz11_2
  try clear hfz11_3
  try clear hfz11_4
  try clear hfz11_5
  try clear hfz11_6
  try clear hfz11_7
  try clear hfz13_0
  try clear hfz13_1
  try clear hfz13_2
  try clear hfz13_3
  try clear hfz13_4
  try clear hfz13_5
  try clear hfz13_6
  try clear hfz13_7
  try clear hfz15_0
  try clear hfz15_1
  try clear hfz15_2
  try clear hfz15_3
  try clear hfz15_4
  try clear hfz15_5
  try clear hfz15_6
  try clear hfz15_7
  try clear hfz16_0
  try clear hfz16_1
  try clear hfz16_2
  try clear hfz16_3
  try clear hfz16_4
  try clear hfz16_5
  try clear hfz16_6
  try clear hfz16_7
  try clear hfz7_0
  try clear hfz7_1
  try clear hfz7_2
  try clear hfz7_3
  try clear hfz7_4
  try clear hfz7_5
  try clear hfz7_6
  try clear hfz7_7
  try clear hfz9_0
  try clear hfz9_1
  try clear hfz9_2
  try clear hfz9_3
  try clear hfz9_4
  try clear hfz9_5
  try clear hfz9_6
  try clear hfz9_7
  obtain ⟨kq, x32_1, rfl, HA, HJ1, BK367, HB⟩ := hcut
  cases kq with
  | zero => exact absurd HA.out (by simp [cressetref03_CheckMaster.j0])
  | succ kj1 =>
   have H := HA.out
   clear HA
   simp only [cressetref03_CheckMaster.j0] at H
   by_cases c17 : x32_1 = true
   ·
    subst c17
    have H1 : (some 32) = some r := by rw [if_pos rfl] at H; first | done | exact H
    clear H
    have H := H1
    clear H1
    obtain rfl := Option.some.inj H
    go_wp2
    go_ret
    exact ⟨by first | rfl | (simp [errW_none, errW_some] <;> rfl) | (simp [*, errW_none, errW_some] <;> rfl), by repeat (first | (with_reducible first | exact HB.out | apply below_alloc | apply pw_below_drewN | apply below_drew1 | refine below_set ?_ GE367.out) | exact HB.out)⟩
   ·
    replace c17 := Bool.eq_false_iff.mpr c17
    subst c17
    have H1 : ((cressetref03_nought.f a0_4).bind fun t370 => (if t370 = true then ((cressetref03_nought.f a0_6).bind fun t371 => (if t371 = true then ((cressetref03_nought.f a0_7).bind fun t372 => (if t372 = true then (if a0_5 < 0 then (some 32) else (if a0_5 ≥ 512 then (some 32) else (some 0))) else (some 32))) else (some 32))) else (some 32))) = some r := by rw [if_neg (show ¬ (false = true) by decide)] at H; first | done | exact H
    clear H
    have H := H1
    clear H1
    replace H := Option.bind_eq_some_iff.mp H
    obtain ⟨t370, A180, H⟩ := H
    replace H : (if t370 = true then ((cressetref03_nought.f a0_6).bind fun t371 => (if t371 = true then ((cressetref03_nought.f a0_7).bind fun t372 => (if t372 = true then (if a0_5 < 0 then (some 32) else (if a0_5 ≥ 512 then (some 32) else (some 0))) else (some 32))) else (some 32))) else (some 32)) = some r := H
    have A18 := Aside0.mk A180
    clear A180
    by_cases c19 : t370 = true
    ·
     subst c19
     have H1 : ((cressetref03_nought.f a0_6).bind fun t371 => (if t371 = true then ((cressetref03_nought.f a0_7).bind fun t372 => (if t372 = true then (if a0_5 < 0 then (some 32) else (if a0_5 ≥ 512 then (some 32) else (some 0))) else (some 32))) else (some 32))) = some r := by rw [if_pos rfl] at H; first | done | exact H
     clear H
     have H := H1
     clear H1
     replace H := Option.bind_eq_some_iff.mp H
     obtain ⟨t371, A200, H⟩ := H
     replace H : (if t371 = true then ((cressetref03_nought.f a0_7).bind fun t372 => (if t372 = true then (if a0_5 < 0 then (some 32) else (if a0_5 ≥ 512 then (some 32) else (some 0))) else (some 32))) else (some 32)) = some r := H
     have A20 := Aside0.mk A200
     clear A200
     by_cases c21 : t371 = true
     ·
      subst c21
      have H1 : ((cressetref03_nought.f a0_7).bind fun t372 => (if t372 = true then (if a0_5 < 0 then (some 32) else (if a0_5 ≥ 512 then (some 32) else (some 0))) else (some 32))) = some r := by rw [if_pos rfl] at H; first | done | exact H
      clear H
      have H := H1
      clear H1
      replace H := Option.bind_eq_some_iff.mp H
      obtain ⟨t372, A220, H⟩ := H
      replace H : (if t372 = true then (if a0_5 < 0 then (some 32) else (if a0_5 ≥ 512 then (some 32) else (some 0))) else (some 32)) = some r := H
      have A22 := Aside0.mk A220
      clear A220
      by_cases c23 : t372 = true
      ·
       subst c23
       have H1 : (if a0_5 < 0 then (some 32) else (if a0_5 ≥ 512 then (some 32) else (some 0))) = some r := by rw [if_pos rfl] at H; first | done | exact H
       clear H
       have H := H1
       clear H1
       by_cases c24 : a0_5 < 0
       ·
        rw [if_pos c24] at H
        have c24b0 : decide (a0_5 < 0) = true := decide_eq_true c24
        clear c24
        obtain rfl := Option.some.inj H
        have hcz25_0 : wc.cell? ⟨gb367, 0, none⟩ = some (.int .i64 a0_0) := (blk_cell BK367.out 0).trans rfl
        have hcz25_1 : wc.cell? ⟨gb367, 1, none⟩ = some (.int .i64 a0_1) := (blk_cell BK367.out 1).trans rfl
        have hcz25_2 : wc.cell? ⟨gb367, 2, none⟩ = some (.int .i64 a0_2) := (blk_cell BK367.out 2).trans rfl
        have hcz25_3 : wc.cell? ⟨gb367, 3, none⟩ = some (.int .i64 a0_3) := (blk_cell BK367.out 3).trans rfl
        have hcz25_4 : wc.cell? ⟨gb367, 4, none⟩ = some (.int .i64 a0_4) := (blk_cell BK367.out 4).trans rfl
        have hcz25_5 : wc.cell? ⟨gb367, 5, none⟩ = some (.int .i64 a0_5) := (blk_cell BK367.out 5).trans rfl
        have hcz25_6 : wc.cell? ⟨gb367, 6, none⟩ = some (.int .i64 a0_6) := (blk_cell BK367.out 6).trans rfl
        have hcz25_7 : wc.cell? ⟨gb367, 7, none⟩ = some (.int .i64 a0_7) := (blk_cell BK367.out 7).trans rfl
        have hfz25_0 := blk_frozen BK367.out 0
        have hfz25_1 := blk_frozen BK367.out 1
        have hfz25_2 := blk_frozen BK367.out 2
        have hfz25_3 := blk_frozen BK367.out 3
        have hfz25_4 := blk_frozen BK367.out 4
        have hfz25_5 := blk_frozen BK367.out 5
        have hfz25_6 := blk_frozen BK367.out 6
        have hfz25_7 := blk_frozen BK367.out 7
        go_wp2_with (first | ((with_reducible refine gate_callee (f := 50) rfl ?_); refine goesL_ (some 36) rfl rfl Try.func50 (by kernel_rfl) rfl #[.int .i64 a0_4] rfl (by (try simp only [List.map_toArray, List.map_cons, List.map_nil]); first | done | rfl | (simp only [List.length_drop, List.length_take]; rfl)) ?_; (with_reducible refine (cressetref03_nought.calls a0_4 true _ A18.out).mono ?_); rintro e w' ⟨rfl, ⟨nd, rfl⟩⟩; refine ⟨_, rfl, ?_⟩) | (go_at_call 50; (with_reducible refine (cressetref03_nought.calls a0_6 true _ A20.out).mono ?_); rintro e w' ⟨rfl, ⟨nd, rfl⟩⟩) | (go_at_call 50; (with_reducible refine (cressetref03_nought.calls a0_7 true _ A22.out).mono ?_); rintro e w' ⟨rfl, ⟨nd, rfl⟩⟩))
        go_ret
        exact ⟨by first | rfl | (simp [errW_none, errW_some] <;> rfl) | (simp [*, errW_none, errW_some] <;> rfl), by repeat (first | (with_reducible first | exact HB.out | apply below_alloc | apply pw_below_drewN | apply below_drew1 | refine below_set ?_ GE367.out) | exact HB.out)⟩
       ·
        rw [if_neg c24] at H
        have c24b0 : decide (a0_5 < 0) = false := decide_eq_false c24
        clear c24
        by_cases c26 : a0_5 ≥ 512
        ·
         rw [if_pos c26] at H
         have c26b0 : decide (512 ≤ a0_5) = true := decide_eq_true c26
         clear c26
         obtain rfl := Option.some.inj H
         have hcz27_0 : wc.cell? ⟨gb367, 0, none⟩ = some (.int .i64 a0_0) := (blk_cell BK367.out 0).trans rfl
         have hcz27_1 : wc.cell? ⟨gb367, 1, none⟩ = some (.int .i64 a0_1) := (blk_cell BK367.out 1).trans rfl
         have hcz27_2 : wc.cell? ⟨gb367, 2, none⟩ = some (.int .i64 a0_2) := (blk_cell BK367.out 2).trans rfl
         have hcz27_3 : wc.cell? ⟨gb367, 3, none⟩ = some (.int .i64 a0_3) := (blk_cell BK367.out 3).trans rfl
         have hcz27_4 : wc.cell? ⟨gb367, 4, none⟩ = some (.int .i64 a0_4) := (blk_cell BK367.out 4).trans rfl
         have hcz27_5 : wc.cell? ⟨gb367, 5, none⟩ = some (.int .i64 a0_5) := (blk_cell BK367.out 5).trans rfl
         have hcz27_6 : wc.cell? ⟨gb367, 6, none⟩ = some (.int .i64 a0_6) := (blk_cell BK367.out 6).trans rfl
         have hcz27_7 : wc.cell? ⟨gb367, 7, none⟩ = some (.int .i64 a0_7) := (blk_cell BK367.out 7).trans rfl
         have hfz27_0 := blk_frozen BK367.out 0
         have hfz27_1 := blk_frozen BK367.out 1
         have hfz27_2 := blk_frozen BK367.out 2
         have hfz27_3 := blk_frozen BK367.out 3
         have hfz27_4 := blk_frozen BK367.out 4
         have hfz27_5 := blk_frozen BK367.out 5
         have hfz27_6 := blk_frozen BK367.out 6
         have hfz27_7 := blk_frozen BK367.out 7
         go_wp2_with (first | ((with_reducible refine gate_callee (f := 50) rfl ?_); refine goesL_ (some 36) rfl rfl Try.func50 (by kernel_rfl) rfl #[.int .i64 a0_4] rfl (by (try simp only [List.map_toArray, List.map_cons, List.map_nil]); first | done | rfl | (simp only [List.length_drop, List.length_take]; rfl)) ?_; (with_reducible refine (cressetref03_nought.calls a0_4 true _ A18.out).mono ?_); rintro e w' ⟨rfl, ⟨nd, rfl⟩⟩; refine ⟨_, rfl, ?_⟩) | (go_at_call 50; (with_reducible refine (cressetref03_nought.calls a0_6 true _ A20.out).mono ?_); rintro e w' ⟨rfl, ⟨nd, rfl⟩⟩) | (go_at_call 50; (with_reducible refine (cressetref03_nought.calls a0_7 true _ A22.out).mono ?_); rintro e w' ⟨rfl, ⟨nd, rfl⟩⟩))
         go_ret
         exact ⟨by first | rfl | (simp [errW_none, errW_some] <;> rfl) | (simp [*, errW_none, errW_some] <;> rfl), by repeat (first | (with_reducible first | exact HB.out | apply below_alloc | apply pw_below_drewN | apply below_drew1 | refine below_set ?_ GE367.out) | exact HB.out)⟩
        ·
         rw [if_neg c26] at H
         have c26b0 : decide (512 ≤ a0_5) = false := decide_eq_false c26
         clear c26
         obtain rfl := Option.some.inj H
         have hcz28_0 : wc.cell? ⟨gb367, 0, none⟩ = some (.int .i64 a0_0) := (blk_cell BK367.out 0).trans rfl
         have hcz28_1 : wc.cell? ⟨gb367, 1, none⟩ = some (.int .i64 a0_1) := (blk_cell BK367.out 1).trans rfl
         have hcz28_2 : wc.cell? ⟨gb367, 2, none⟩ = some (.int .i64 a0_2) := (blk_cell BK367.out 2).trans rfl
         have hcz28_3 : wc.cell? ⟨gb367, 3, none⟩ = some (.int .i64 a0_3) := (blk_cell BK367.out 3).trans rfl
         have hcz28_4 : wc.cell? ⟨gb367, 4, none⟩ = some (.int .i64 a0_4) := (blk_cell BK367.out 4).trans rfl
         have hcz28_5 : wc.cell? ⟨gb367, 5, none⟩ = some (.int .i64 a0_5) := (blk_cell BK367.out 5).trans rfl
         have hcz28_6 : wc.cell? ⟨gb367, 6, none⟩ = some (.int .i64 a0_6) := (blk_cell BK367.out 6).trans rfl
         have hcz28_7 : wc.cell? ⟨gb367, 7, none⟩ = some (.int .i64 a0_7) := (blk_cell BK367.out 7).trans rfl
         have hfz28_0 := blk_frozen BK367.out 0
         have hfz28_1 := blk_frozen BK367.out 1
         have hfz28_2 := blk_frozen BK367.out 2
         have hfz28_3 := blk_frozen BK367.out 3
         have hfz28_4 := blk_frozen BK367.out 4
         have hfz28_5 := blk_frozen BK367.out 5
         have hfz28_6 := blk_frozen BK367.out 6
         have hfz28_7 := blk_frozen BK367.out 7
         go_wp2_with (first | ((with_reducible refine gate_callee (f := 50) rfl ?_); refine goesL_ (some 36) rfl rfl Try.func50 (by kernel_rfl) rfl #[.int .i64 a0_4] rfl (by (try simp only [List.map_toArray, List.map_cons, List.map_nil]); first | done | rfl | (simp only [List.length_drop, List.length_take]; rfl)) ?_; (with_reducible refine (cressetref03_nought.calls a0_4 true _ A18.out).mono ?_); rintro e w' ⟨rfl, ⟨nd, rfl⟩⟩; refine ⟨_, rfl, ?_⟩) | (go_at_call 50; (with_reducible refine (cressetref03_nought.calls a0_6 true _ A20.out).mono ?_); rintro e w' ⟨rfl, ⟨nd, rfl⟩⟩) | (go_at_call 50; (with_reducible refine (cressetref03_nought.calls a0_7 true _ A22.out).mono ?_); rintro e w' ⟨rfl, ⟨nd, rfl⟩⟩))
         go_ret
         exact ⟨by first | rfl | (simp [errW_none, errW_some] <;> rfl) | (simp [*, errW_none, errW_some] <;> rfl), by repeat (first | (with_reducible first | exact HB.out | apply below_alloc | apply pw_below_drewN | apply below_drew1 | refine below_set ?_ GE367.out) | exact HB.out)⟩
      ·
       replace c23 := Bool.eq_false_iff.mpr c23
       subst c23
       have H1 : (some 32) = some r := by rw [if_neg (show ¬ (false = true) by decide)] at H; first | done | exact H
       clear H
       have H := H1
       clear H1
       obtain rfl := Option.some.inj H
       have hcz29_0 : wc.cell? ⟨gb367, 0, none⟩ = some (.int .i64 a0_0) := (blk_cell BK367.out 0).trans rfl
       have hcz29_1 : wc.cell? ⟨gb367, 1, none⟩ = some (.int .i64 a0_1) := (blk_cell BK367.out 1).trans rfl
       have hcz29_2 : wc.cell? ⟨gb367, 2, none⟩ = some (.int .i64 a0_2) := (blk_cell BK367.out 2).trans rfl
       have hcz29_3 : wc.cell? ⟨gb367, 3, none⟩ = some (.int .i64 a0_3) := (blk_cell BK367.out 3).trans rfl
       have hcz29_4 : wc.cell? ⟨gb367, 4, none⟩ = some (.int .i64 a0_4) := (blk_cell BK367.out 4).trans rfl
       have hcz29_5 : wc.cell? ⟨gb367, 5, none⟩ = some (.int .i64 a0_5) := (blk_cell BK367.out 5).trans rfl
       have hcz29_6 : wc.cell? ⟨gb367, 6, none⟩ = some (.int .i64 a0_6) := (blk_cell BK367.out 6).trans rfl
       have hcz29_7 : wc.cell? ⟨gb367, 7, none⟩ = some (.int .i64 a0_7) := (blk_cell BK367.out 7).trans rfl
       have hfz29_0 := blk_frozen BK367.out 0
       have hfz29_1 := blk_frozen BK367.out 1
       have hfz29_2 := blk_frozen BK367.out 2
       have hfz29_3 := blk_frozen BK367.out 3
       have hfz29_4 := blk_frozen BK367.out 4
       have hfz29_5 := blk_frozen BK367.out 5
       have hfz29_6 := blk_frozen BK367.out 6
       have hfz29_7 := blk_frozen BK367.out 7
       go_wp2_with (first | ((with_reducible refine gate_callee (f := 50) rfl ?_); refine goesL_ (some 36) rfl rfl Try.func50 (by kernel_rfl) rfl #[.int .i64 a0_4] rfl (by (try simp only [List.map_toArray, List.map_cons, List.map_nil]); first | done | rfl | (simp only [List.length_drop, List.length_take]; rfl)) ?_; (with_reducible refine (cressetref03_nought.calls a0_4 true _ A18.out).mono ?_); rintro e w' ⟨rfl, ⟨nd, rfl⟩⟩; refine ⟨_, rfl, ?_⟩) | (go_at_call 50; (with_reducible refine (cressetref03_nought.calls a0_6 true _ A20.out).mono ?_); rintro e w' ⟨rfl, ⟨nd, rfl⟩⟩) | (go_at_call 50; (with_reducible refine (cressetref03_nought.calls a0_7 false _ A22.out).mono ?_); rintro e w' ⟨rfl, ⟨nd, rfl⟩⟩))
       go_ret
       exact ⟨by first | rfl | (simp [errW_none, errW_some] <;> rfl) | (simp [*, errW_none, errW_some] <;> rfl), by repeat (first | (with_reducible first | exact HB.out | apply below_alloc | apply pw_below_drewN | apply below_drew1 | refine below_set ?_ GE367.out) | exact HB.out)⟩
     ·
      replace c21 := Bool.eq_false_iff.mpr c21
      subst c21
      have H1 : (some 32) = some r := by rw [if_neg (show ¬ (false = true) by decide)] at H; first | done | exact H
      clear H
      have H := H1
      clear H1
      obtain rfl := Option.some.inj H
      have hcz30_0 : wc.cell? ⟨gb367, 0, none⟩ = some (.int .i64 a0_0) := (blk_cell BK367.out 0).trans rfl
      have hcz30_1 : wc.cell? ⟨gb367, 1, none⟩ = some (.int .i64 a0_1) := (blk_cell BK367.out 1).trans rfl
      have hcz30_2 : wc.cell? ⟨gb367, 2, none⟩ = some (.int .i64 a0_2) := (blk_cell BK367.out 2).trans rfl
      have hcz30_3 : wc.cell? ⟨gb367, 3, none⟩ = some (.int .i64 a0_3) := (blk_cell BK367.out 3).trans rfl
      have hcz30_4 : wc.cell? ⟨gb367, 4, none⟩ = some (.int .i64 a0_4) := (blk_cell BK367.out 4).trans rfl
      have hcz30_5 : wc.cell? ⟨gb367, 5, none⟩ = some (.int .i64 a0_5) := (blk_cell BK367.out 5).trans rfl
      have hcz30_6 : wc.cell? ⟨gb367, 6, none⟩ = some (.int .i64 a0_6) := (blk_cell BK367.out 6).trans rfl
      have hcz30_7 : wc.cell? ⟨gb367, 7, none⟩ = some (.int .i64 a0_7) := (blk_cell BK367.out 7).trans rfl
      have hfz30_0 := blk_frozen BK367.out 0
      have hfz30_1 := blk_frozen BK367.out 1
      have hfz30_2 := blk_frozen BK367.out 2
      have hfz30_3 := blk_frozen BK367.out 3
      have hfz30_4 := blk_frozen BK367.out 4
      have hfz30_5 := blk_frozen BK367.out 5
      have hfz30_6 := blk_frozen BK367.out 6
      have hfz30_7 := blk_frozen BK367.out 7
      go_wp2_with (first | ((with_reducible refine gate_callee (f := 50) rfl ?_); refine goesL_ (some 36) rfl rfl Try.func50 (by kernel_rfl) rfl #[.int .i64 a0_4] rfl (by (try simp only [List.map_toArray, List.map_cons, List.map_nil]); first | done | rfl | (simp only [List.length_drop, List.length_take]; rfl)) ?_; (with_reducible refine (cressetref03_nought.calls a0_4 true _ A18.out).mono ?_); rintro e w' ⟨rfl, ⟨nd, rfl⟩⟩; refine ⟨_, rfl, ?_⟩) | (go_at_call 50; (with_reducible refine (cressetref03_nought.calls a0_6 false _ A20.out).mono ?_); rintro e w' ⟨rfl, ⟨nd, rfl⟩⟩))
      go_ret
      exact ⟨by first | rfl | (simp [errW_none, errW_some] <;> rfl) | (simp [*, errW_none, errW_some] <;> rfl), by repeat (first | (with_reducible first | exact HB.out | apply below_alloc | apply pw_below_drewN | apply below_drew1 | refine below_set ?_ GE367.out) | exact HB.out)⟩
    ·
     replace c19 := Bool.eq_false_iff.mpr c19
     subst c19
     have H1 : (some 32) = some r := by rw [if_neg (show ¬ (false = true) by decide)] at H; first | done | exact H
     clear H
     have H := H1
     clear H1
     obtain rfl := Option.some.inj H
     have hcz31_0 : wc.cell? ⟨gb367, 0, none⟩ = some (.int .i64 a0_0) := (blk_cell BK367.out 0).trans rfl
     have hcz31_1 : wc.cell? ⟨gb367, 1, none⟩ = some (.int .i64 a0_1) := (blk_cell BK367.out 1).trans rfl
     have hcz31_2 : wc.cell? ⟨gb367, 2, none⟩ = some (.int .i64 a0_2) := (blk_cell BK367.out 2).trans rfl
     have hcz31_3 : wc.cell? ⟨gb367, 3, none⟩ = some (.int .i64 a0_3) := (blk_cell BK367.out 3).trans rfl
     have hcz31_4 : wc.cell? ⟨gb367, 4, none⟩ = some (.int .i64 a0_4) := (blk_cell BK367.out 4).trans rfl
     have hcz31_5 : wc.cell? ⟨gb367, 5, none⟩ = some (.int .i64 a0_5) := (blk_cell BK367.out 5).trans rfl
     have hcz31_6 : wc.cell? ⟨gb367, 6, none⟩ = some (.int .i64 a0_6) := (blk_cell BK367.out 6).trans rfl
     have hcz31_7 : wc.cell? ⟨gb367, 7, none⟩ = some (.int .i64 a0_7) := (blk_cell BK367.out 7).trans rfl
     have hfz31_0 := blk_frozen BK367.out 0
     have hfz31_1 := blk_frozen BK367.out 1
     have hfz31_2 := blk_frozen BK367.out 2
     have hfz31_3 := blk_frozen BK367.out 3
     have hfz31_4 := blk_frozen BK367.out 4
     have hfz31_5 := blk_frozen BK367.out 5
     have hfz31_6 := blk_frozen BK367.out 6
     have hfz31_7 := blk_frozen BK367.out 7
     go_wp2_with (first | ((with_reducible refine gate_callee (f := 50) rfl ?_); refine goesL_ (some 36) rfl rfl Try.func50 (by kernel_rfl) rfl #[.int .i64 a0_4] rfl (by (try simp only [List.map_toArray, List.map_cons, List.map_nil]); first | done | rfl | (simp only [List.length_drop, List.length_take]; rfl)) ?_; (with_reducible refine (cressetref03_nought.calls a0_4 false _ A18.out).mono ?_); rintro e w' ⟨rfl, ⟨nd, rfl⟩⟩; refine ⟨_, rfl, ?_⟩))
     go_ret
     exact ⟨by first | rfl | (simp [errW_none, errW_some] <;> rfl) | (simp [*, errW_none, errW_some] <;> rfl), by repeat (first | (with_reducible first | exact HB.out | apply below_alloc | apply pw_below_drewN | apply below_drew1 | refine below_set ?_ GE367.out) | exact HB.out)⟩

end Go.Proofs.Ytkcdmoghnoodmaa.B

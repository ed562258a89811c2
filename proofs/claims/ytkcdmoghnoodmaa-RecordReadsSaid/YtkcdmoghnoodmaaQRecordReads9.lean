/-
Of the row RecordReads: printed walks and plain laws, merged (wip/claim2.py).
-/
import Derived.Test.YtkcdmoghnoodmaaQRecordReads3
import Derived.Test.YtkcdmoghnoodmaaQRecordReads7
namespace Go.Proofs.Ytkcdmoghnoodmaa.B
open Go.RowKit Go.Proofs.YtkcdmoghnoodmaaW.PrintWords Go.Proofs.YtkcdmoghnoodmaaW.PrintLast Go.Proofs.YtkcdmoghnoodmaaW.PrintMore Go.Proofs.YtkcdmoghnoodmaaW.Mine
attribute [local go_sem] max2_int min2_int max_two min_two max_three min_three max_four min_four str_gtr str_leq str_geq str_max str_min
set_option linter.unusedVariables false
set_option linter.unusedSimpArgs false

mutual
def cressetref03_CheckChunk.j0 : Nat → Bool → Int → List (S74) → Bool → Option (Int)
  | 0, _, _, _, _ => none
  | k + 1, x20, x363000, x363001, x363002 => if x20 = true then (some 32) else (cressetref03_CheckChunk.l0 k 0 x363000 x363001 x363002)
def cressetref03_CheckChunk.l0 : Nat → Int → Int → List (S74) → Bool → Option (Int)
  | 0, _, _, _, _ => none
  | k + 1, x3, x363000, x363001, x363002 => if x3 < (x363001.length : Int) then (if 0 ≤ x3 then ((cressetref03_Key.f ((rd_T74 x363001 x3).f0)).bind fun t365 => (if t365 = 0 then ((cressetref03_Value.f ((rd_T74 x363001 x3).f1)).bind fun t366 => (if t366 = 0 then ((cressetref03_ts.f ((rd_T74 x363001 x3).f2)).bind fun t367 => (if t367 = true then (if x3 > 0 then (if 0 ≤ (wrap64 (x3 - 1)) then (if (wrap64 (x3 - 1)) < (x363001.length : Int) then (cressetref03_CheckChunk.j2 k x3 (!(Op.bytesLess (((rd_T74 x363001 (wrap64 (x3 - 1))).f0).toList) (((rd_T74 x363001 x3).f0).toList))) x363000 x363001 x363002) else (none)) else (none)) else (cressetref03_CheckChunk.j2 k x3 false x363000 x363001 x363002)) else (cressetref03_CheckChunk.j2 k x3 true x363000 x363001 x363002))) else (some t366))) else (some t365))) else (none)) else (some 0)
def cressetref03_CheckChunk.j2 : Nat → Int → Bool → Int → List (S74) → Bool → Option (Int)
  | 0, _, _, _, _, _ => none
  | k + 1, x3, x64, x363000, x363001, x363002 => if x64 = true then (some 32) else (cressetref03_CheckChunk.l0 k (wrap64 (x3 + 1)) x363000 x363001 x363002)
end
def cressetref03_CheckChunk.f (k : Nat) (a0_0 : Int) (l0_1 : List (S74)) (a0_2 : Bool) : Option (Int) := if a0_0 < 0 then (cressetref03_CheckChunk.j0 k true a0_0 l0_1 a0_2) else (if a0_0 ≥ 4096 then (cressetref03_CheckChunk.j0 k true a0_0 l0_1 a0_2) else (cressetref03_CheckChunk.j0 k (decide ((l0_1.length : Int) > 16)) a0_0 l0_1 a0_2))
set_option maxHeartbeats 8000000 in
set_option maxRecDepth 100000 in
theorem cressetref03_CheckChunk.calls (k : Nat) (a0_0 : Int) (A0_1 : Option Addr) (c0_1 : Nat) (l0_1 : List (S74)) (a0_2 : Bool) (r : Int) (w : World) (hr0_1 : Kd.C k74 w A0_1 l0_1.length l0_1) (hc0_1 : l0_1.length ≤ c0_1) (h : cressetref03_CheckChunk.f k a0_0 l0_1 a0_2 = some r) :
    Calls Try.prog 21 #[.agg #[.int .i64 a0_0, .slice A0_1 l0_1.length c0_1, .bool a0_2]] w fun e w' => e = .returned (.int .i64 r) ∧ Below w.heap.size w w' := by
 have hu27 := Try.underlying27
 have hu74 := Try.underlying74
 have HR0_1 := Aside0.mk hr0_1
 have HC0_1 := Aside0.mk hc0_1
 clear hr0_1 hc0_1
 have HB := Aside0.mk (Below.refl w.heap.size w)
 have H : (if a0_0 < 0 then (cressetref03_CheckChunk.j0 k true a0_0 l0_1 a0_2) else (if a0_0 ≥ 4096 then (cressetref03_CheckChunk.j0 k true a0_0 l0_1 a0_2) else (cressetref03_CheckChunk.j0 k (decide ((l0_1.length : Int) > 16)) a0_0 l0_1 a0_2))) = some r := h
 clear h
 have HC2 := Aside0.mk H
 clear H
 go_enter Try.func21, Try.ntmps21
 go_upto_region 1 with (first | ((with_reducible refine gate_dst (N := 1) rfl ?_); (try (refine gate_guard (by rfl) ?_; dsimp only)); refine box_event ?hg (N := 1) ?hd (cs := #[.int .i64 a0_0, .slice A0_1 l0_1.length c0_1, .bool a0_2]) (t := 27) ?hr ?_; (case hd => rfl); (case hg => rfl); (case hr => first | (go_simp; done) | (go_simp; rfl)); intro gb362 hg w3 hbox hb; have n0_ := Aside0.mk (below_step (by repeat (first | (with_reducible first | exact HB.out | apply below_alloc | apply pw_below_drewN | apply below_drew1) | exact HB.out)) hb); have n1_ := Aside0.mk (hbox); have n2_ := Aside0.mk ((by rw [hg]; exact (below_size (by repeat (first | (with_reducible first | exact HB.out | apply below_alloc | apply pw_below_drewN | apply below_drew1) | exact HB.out))) : w.heap.size ≤ gb362)); have n3_ := Aside0.mk ((by rw [hg]; exact (below_size (by repeat (first | (with_reducible first | exact HB.out | apply below_alloc | apply pw_below_drewN | apply below_drew1) | exact HB.out))) : w.heap.size ≤ gb362)); clear HB; have HB := n0_; have BK362 := n1_; have GW362 := n2_; have GE362 := n3_; clear n0_ n1_ n2_ n3_; clear hb hbox hg))
 repeat (go_quiet (first | ((with_reducible refine gate_dst (N := 1) rfl ?_); (try (refine gate_guard (by rfl) ?_; dsimp only)); refine box_event ?hg (N := 1) ?hd (cs := #[.int .i64 a0_0, .slice A0_1 l0_1.length c0_1, .bool a0_2]) (t := 27) ?hr ?_; (case hd => rfl); (case hg => rfl); (case hr => first | (go_simp; done) | (go_simp; rfl)); intro gb362 hg w3 hbox hb; have n0_ := Aside0.mk (below_step (by repeat (first | (with_reducible first | exact HB.out | apply below_alloc | apply pw_below_drewN | apply below_drew1) | exact HB.out)) hb); have n1_ := Aside0.mk (hbox); have n2_ := Aside0.mk ((by rw [hg]; exact (below_size (by repeat (first | (with_reducible first | exact HB.out | apply below_alloc | apply pw_below_drewN | apply below_drew1) | exact HB.out))) : w.heap.size ≤ gb362)); have n3_ := Aside0.mk ((by rw [hg]; exact (below_size (by repeat (first | (with_reducible first | exact HB.out | apply below_alloc | apply pw_below_drewN | apply below_drew1) | exact HB.out))) : w.heap.size ≤ gb362)); clear HB; have HB := n0_; have BK362 := n1_; have GW362 := n2_; have GE362 := n3_; clear n0_ n1_ n2_ n3_; clear hb hbox hg)); go_upto_region 1 with (first | ((with_reducible refine gate_dst (N := 1) rfl ?_); (try (refine gate_guard (by rfl) ?_; dsimp only)); refine box_event ?hg (N := 1) ?hd (cs := #[.int .i64 a0_0, .slice A0_1 l0_1.length c0_1, .bool a0_2]) (t := 27) ?hr ?_; (case hd => rfl); (case hg => rfl); (case hr => first | (go_simp; done) | (go_simp; rfl)); intro gb362 hg w3 hbox hb; have n0_ := Aside0.mk (below_step (by repeat (first | (with_reducible first | exact HB.out | apply below_alloc | apply pw_below_drewN | apply below_drew1) | exact HB.out)) hb); have n1_ := Aside0.mk (hbox); have n2_ := Aside0.mk ((by rw [hg]; exact (below_size (by repeat (first | (with_reducible first | exact HB.out | apply below_alloc | apply pw_below_drewN | apply below_drew1) | exact HB.out))) : w.heap.size ≤ gb362)); have n3_ := Aside0.mk ((by rw [hg]; exact (below_size (by repeat (first | (with_reducible first | exact HB.out | apply below_alloc | apply pw_below_drewN | apply below_drew1) | exact HB.out))) : w.heap.size ≤ gb362)); clear HB; have HB := n0_; have BK362 := n1_; have GW362 := n2_; have GE362 := n3_; clear n0_ n1_ n2_ n3_; clear hb hbox hg)))
 (try simp only [Act.put, List.setIfInBounds_toArray, List.set_cons_zero, List.set_cons_succ])
 go_cut [20] (fun v20 wc => ∃ (kq : Nat) (x20_1 : Bool), v20 = .bool x20_1 ∧ Aside0 (cressetref03_CheckChunk.j0 kq x20_1 a0_0 l0_1 a0_2 = some r) ∧ Aside0 (kq ≤ k) ∧ Aside0 (wc.heap[gb362]? = some (.cells #[.int .i64 a0_0, (.slice A0_1 l0_1.length c0_1), .bool a0_2] 27 (0, 0))) ∧ Aside0 (Below w.heap.size w wc))
 case first =>
  have H := HC2.out
  clear HC2
  by_cases c4 : a0_0 < 0
  ·
   rw [if_pos c4] at H
   have c4b0 : decide (a0_0 < 0) = true := decide_eq_true c4
   clear c4
   (first | rw [c4b0] | (simp only [i64_w, i32_w]; rw [c4b0]) | skip)
   have H' := Aside0.mk H
   clear H
   have hcz5_0 : w3.cell? ⟨gb362, 0, none⟩ = some (.int .i64 a0_0) := (blk_cell BK362.out 0).trans rfl
   have hcz5_1 : w3.cell? ⟨gb362, 1, none⟩ = some (.slice A0_1 l0_1.length c0_1) := (blk_cell BK362.out 1).trans rfl
   have hcz5_2 : w3.cell? ⟨gb362, 2, none⟩ = some (.bool a0_2) := (blk_cell BK362.out 2).trans rfl
   have hfz5_0 := blk_frozen BK362.out 0
   have hfz5_1 := blk_frozen BK362.out 1
   have hfz5_2 := blk_frozen BK362.out 2
   go_wp2
   repeat (go_quiet (fail); try go_wp2)
   go_meet
   case rel => exact ⟨_, (true), (by first | rfl | (simp; done) | (simp [*]; done)), H', ⟨by first | omega | exact Nat.le_refl _⟩, ⟨by (with_reducible repeat (first | refine blk_drewN ?_ _ | refine blk_drew ?_ | refine blk_alloc ?_ _)); exact BK362.out⟩, ⟨by repeat (first | (with_reducible first | exact HB.out | apply below_alloc | apply pw_below_drewN | apply below_drew1 | refine below_set ?_ GE362.out) | exact HB.out)⟩⟩
  ·
   rw [if_neg c4] at H
   have c4b0 : decide (a0_0 < 0) = false := decide_eq_false c4
   clear c4
   (first | rw [c4b0] | (simp only [i64_w, i32_w]; rw [c4b0]) | skip)
   by_cases c6 : a0_0 ≥ 4096
   ·
    rw [if_pos c6] at H
    have c6b0 : decide (4096 ≤ a0_0) = true := decide_eq_true c6
    clear c6
    have H' := Aside0.mk H
    clear H
    have hcz7_0 : w3.cell? ⟨gb362, 0, none⟩ = some (.int .i64 a0_0) := (blk_cell BK362.out 0).trans rfl
    have hcz7_1 : w3.cell? ⟨gb362, 1, none⟩ = some (.slice A0_1 l0_1.length c0_1) := (blk_cell BK362.out 1).trans rfl
    have hcz7_2 : w3.cell? ⟨gb362, 2, none⟩ = some (.bool a0_2) := (blk_cell BK362.out 2).trans rfl
    have hfz7_0 := blk_frozen BK362.out 0
    have hfz7_1 := blk_frozen BK362.out 1
    have hfz7_2 := blk_frozen BK362.out 2
    go_wp2
    repeat (go_quiet (fail); try go_wp2)
    go_meet
    case rel => exact ⟨_, (true), (by first | rfl | (simp; done) | (simp [*]; done)), H', ⟨by first | omega | exact Nat.le_refl _⟩, ⟨by (with_reducible repeat (first | refine blk_drewN ?_ _ | refine blk_drew ?_ | refine blk_alloc ?_ _)); exact BK362.out⟩, ⟨by repeat (first | (with_reducible first | exact HB.out | apply below_alloc | apply pw_below_drewN | apply below_drew1 | refine below_set ?_ GE362.out) | exact HB.out)⟩⟩
   ·
    rw [if_neg c6] at H
    have c6b0 : decide (4096 ≤ a0_0) = false := decide_eq_false c6
    clear c6
    have H' := Aside0.mk H
    clear H
    have hcz8_0 : w3.cell? ⟨gb362, 0, none⟩ = some (.int .i64 a0_0) := (blk_cell BK362.out 0).trans rfl
    have hcz8_1 : w3.cell? ⟨gb362, 1, none⟩ = some (.slice A0_1 l0_1.length c0_1) := (blk_cell BK362.out 1).trans rfl
    have hcz8_2 : w3.cell? ⟨gb362, 2, none⟩ = some (.bool a0_2) := (blk_cell BK362.out 2).trans rfl
    have hfz8_0 := blk_frozen BK362.out 0
    have hfz8_1 := blk_frozen BK362.out 1
    have hfz8_2 := blk_frozen BK362.out 2
    go_wp2
    repeat (go_quiet (fail); try go_wp2)
    go_meet
    case rel => exact ⟨_, (decide ((l0_1.length : Int) > 16)), (by first | rfl | (simp; done) | (simp [*]; done)), H', ⟨by first | omega | exact Nat.le_refl _⟩, ⟨by (with_reducible repeat (first | refine blk_drewN ?_ _ | refine blk_drew ?_ | refine blk_alloc ?_ _)); exact BK362.out⟩, ⟨by repeat (first | (with_reducible first | exact HB.out | apply below_alloc | apply pw_below_drewN | apply below_drew1 | refine below_set ?_ GE362.out) | exact HB.out)⟩⟩
 case rest =>
  clear HC2
  try clear c2
  try clear p2
  try clear c4
  try clear c4b0
  try clear c6
  try clear c6b0
  try clear hcz5_0
  try clear hcz5_1
  try clear hcz5_2
  try clear hcz7_0
  try clear hcz7_1
  try clear hcz7_2
  try clear hcz8_0
  try clear hcz8_1
  try clear hcz8_2
  try clear hfz5_0
  try clear hfz5_1
  try clear hfz5_2
  try clear hfz7_0
  try clear hfz7_1
  try clear hfz7_2
  try clear hfz8_0
  try clear hfz8_1
  try clear hfz8_2
  obtain ⟨kq, x20_1, rfl, HA, HJ1, BK362, HB⟩ := hcut
  cases kq with
  | zero => exact absurd HA.out (by simp [cressetref03_CheckChunk.j0])
  | succ kj1 =>
   have H := HA.out
   clear HA
   simp only [cressetref03_CheckChunk.j0] at H
   by_cases c9 : x20_1 = true
   ·
    subst c9
    have H1 : (some 32) = some r := by rw [if_pos rfl] at H; first | done | exact H
    clear H
    have H := H1
    clear H1
    obtain rfl := Option.some.inj H
    go_wp2
    repeat (go_quiet (fail); try go_wp2)
    go_ret
    exact ⟨by first | rfl | (simp [errW_none, errW_some] <;> rfl) | (simp [*, errW_none, errW_some] <;> rfl), by repeat (first | (with_reducible first | exact HB.out | apply below_alloc | apply pw_below_drewN | apply below_drew1 | refine below_set ?_ GE362.out) | exact HB.out)⟩
   ·
    replace c9 := Bool.eq_false_iff.mpr c9
    subst c9
    have H1 : (cressetref03_CheckChunk.l0 kj1 0 a0_0 l0_1 a0_2) = some r := by rw [if_neg (show ¬ (false = true) by decide)] at H; first | done | exact H
    clear H
    have H := H1
    clear H1
    have H' := Aside0.mk H
    clear H
    go_wp2
    repeat (go_quiet (fail); try go_wp2)
    go_loopg [3] kj1 (fun kq v3 w' => ∃ (x3_2 : Int), v3 = .int .i64 x3_2 ∧ Aside0 (cressetref03_CheckChunk.l0 kq x3_2 a0_0 l0_1 a0_2 = some r) ∧ Aside0 (kq ≤ kj1) ∧ Aside0 (w'.heap[gb362]? = some (.cells #[.int .i64 a0_0, (.slice A0_1 l0_1.length c0_1), .bool a0_2] 27 (0, 0))) ∧ Aside0 (Below w.heap.size w w'))
    case atStart => exact ⟨(0), (by first | rfl | (simp; done) | (simp [*]; done)), H', ⟨Nat.le_refl _⟩, ⟨by (with_reducible repeat (first | refine blk_drewN ?_ _ | refine blk_drew ?_ | refine blk_alloc ?_ _)); exact BK362.out⟩, ⟨by repeat (first | (with_reducible first | exact HB.out | apply below_alloc | apply pw_below_drewN | apply below_drew1 | refine below_set ?_ GE362.out) | exact HB.out)⟩⟩
    case round =>
     clear H'
     try clear c2
     try clear p2
     try clear c4
     try clear c4b0
     try clear c6
     try clear c6b0
     try clear c9
     try clear hcz5_0
     try clear hcz5_1
     try clear hcz5_2
     try clear hcz7_0
     try clear hcz7_1
     try clear hcz7_2
     try clear hcz8_0
     try clear hcz8_1
     try clear hcz8_2
     try clear hfz5_0
     try clear hfz5_1
     try clear hfz5_2
     try clear hfz7_0
     try clear hfz7_1
     try clear hfz7_2
     try clear hfz8_0
     try clear hfz8_1
     try clear hfz8_2
     try clear p2
     obtain ⟨x3_2, rfl, HA, HK2, BK362, HB⟩ := hrel
     cases gk with
     | zero => exact absurd HA.out (by simp [cressetref03_CheckChunk.l0])
     | succ k2 =>
      have H := HA.out
      clear HA
      simp only [cressetref03_CheckChunk.l0] at H
      by_cases c10 : x3_2 < (l0_1.length : Int)
      ·
       rw [if_pos c10] at H
       have c10b0 : decide (x3_2 < (l0_1.length : Int)) = true := decide_eq_true c10
       clear c10
       by_cases c11 : 0 ≤ x3_2
       ·
        rw [if_pos c11] at H
        have c11b0 : decide (0 ≤ x3_2) = true := decide_eq_true c11
        clear c11
        replace H := Option.bind_eq_some_iff.mp H
        obtain ⟨t365, A120, H⟩ := H
        replace H : (if t365 = 0 then ((cressetref03_Value.f ((rd_T74 l0_1 x3_2).f1)).bind fun t366 => (if t366 = 0 then ((cressetref03_ts.f ((rd_T74 l0_1 x3_2).f2)).bind fun t367 => (if t367 = true then (if x3_2 > 0 then (if 0 ≤ (wrap64 (x3_2 - 1)) then (if (wrap64 (x3_2 - 1)) < (l0_1.length : Int) then (cressetref03_CheckChunk.j2 k2 x3_2 (!(Op.bytesLess (((rd_T74 l0_1 (wrap64 (x3_2 - 1))).f0).toList) (((rd_T74 l0_1 x3_2).f0).toList))) a0_0 l0_1 a0_2) else (none)) else (none)) else (cressetref03_CheckChunk.j2 k2 x3_2 false a0_0 l0_1 a0_2)) else (cressetref03_CheckChunk.j2 k2 x3_2 true a0_0 l0_1 a0_2))) else (some t366))) else (some t365)) = some r := H
        have A12 := Aside0.mk A120
        clear A120
        by_cases c13 : t365 = 0
        ·
         rw [if_pos c13] at H
         have c13b0 : (t365 == 0) = true := beq_iff_eq.mpr c13
         have c13b1 : (t365 != 0) = false := bne_eq_false_iff_eq.mpr c13
         clear c13
         replace H := Option.bind_eq_some_iff.mp H
         obtain ⟨t366, A140, H⟩ := H
         replace H : (if t366 = 0 then ((cressetref03_ts.f ((rd_T74 l0_1 x3_2).f2)).bind fun t367 => (if t367 = true then (if x3_2 > 0 then (if 0 ≤ (wrap64 (x3_2 - 1)) then (if (wrap64 (x3_2 - 1)) < (l0_1.length : Int) then (cressetref03_CheckChunk.j2 k2 x3_2 (!(Op.bytesLess (((rd_T74 l0_1 (wrap64 (x3_2 - 1))).f0).toList) (((rd_T74 l0_1 x3_2).f0).toList))) a0_0 l0_1 a0_2) else (none)) else (none)) else (cressetref03_CheckChunk.j2 k2 x3_2 false a0_0 l0_1 a0_2)) else (cressetref03_CheckChunk.j2 k2 x3_2 true a0_0 l0_1 a0_2))) else (some t366)) = some r := H
         have A14 := Aside0.mk A140
         clear A140
         by_cases c15 : t366 = 0
         ·
          rw [if_pos c15] at H
          have c15b0 : (t366 == 0) = true := beq_iff_eq.mpr c15
          have c15b1 : (t366 != 0) = false := bne_eq_false_iff_eq.mpr c15
          clear c15
          have HC16 := Aside0.mk H
          clear H
          have hcz17_0 : wr.cell? ⟨gb362, 0, none⟩ = some (.int .i64 a0_0) := (blk_cell BK362.out 0).trans rfl
          have hcz17_1 : wr.cell? ⟨gb362, 1, none⟩ = some (.slice A0_1 l0_1.length c0_1) := (blk_cell BK362.out 1).trans rfl
          have hcz17_2 : wr.cell? ⟨gb362, 2, none⟩ = some (.bool a0_2) := (blk_cell BK362.out 2).trans rfl
          have hfz17_0 := blk_frozen BK362.out 0
          have hfz17_1 := blk_frozen BK362.out 1
          have hfz17_2 := blk_frozen BK362.out 2
          have p363 : 0 ≤ (x3_2 : Int) := of_decide_eq_true (by first | (with_reducible assumption) | assumption)
          have q363 : x3_2 < (l0_1.length : Int) := of_decide_eq_true (by first | (with_reducible assumption) | assumption)
          obtain ⟨ad363, e363, hx363_0, hx363_1, hx363_2⟩ := at_T74 HR0_1.out x3_2 p363 q363
          cases e363
          replace hx363_0 := (HB.out.cell (World.block_lt_of_cell? w _ hx363_0)).trans hx363_0
          replace hx363_1 := (HB.out.cell (World.block_lt_of_cell? w _ hx363_1)).trans hx363_1
          replace hx363_2 := (HB.out.cell (World.block_lt_of_cell? w _ hx363_2)).trans hx363_2
          replace p363 := eq_true p363
          replace q363 := eq_true q363
          go_upto_region 13 with (first | ((with_reducible refine gate_dst (N := 4) rfl ?_); (try (refine gate_guard (by rfl) ?_; dsimp only)); refine box_event ?hg (N := 4) ?hd (cs := #[.string (⟨#[]⟩ : ByteArray), .string (⟨#[]⟩ : ByteArray), .int .i64 0]) (t := 74) ?hr ?_; (case hd => rfl); (case hg => rfl); (case hr => first | (go_simp; done) | (go_simp; rfl)); intro gb364 hg w18 hbox hb; have n0_ := Aside0.mk (blk_below (g := gb362) (o := .cells #[.int .i64 a0_0, .slice (some ad363) l0_1.length c0_1, .bool a0_2] 27 (0, 0)) (by (with_reducible repeat (first | refine blk_drewN ?_ _ | refine blk_drew ?_ | refine blk_alloc ?_ _)); exact BK362.out) hb); have n1_ := Aside0.mk (below_step (by repeat (first | (with_reducible first | exact HB.out | apply below_alloc | apply pw_below_drewN | apply below_drew1 | refine below_set ?_ GE362.out) | exact HB.out)) hb); have n2_ := Aside0.mk (hbox); have n3_ := Aside0.mk ((by rw [hg]; exact (below_size (by repeat (first | (with_reducible first | exact HB.out | apply below_alloc | apply pw_below_drewN | apply below_drew1 | refine below_set ?_ GE362.out) | exact HB.out))) : w.heap.size ≤ gb364)); have n4_ := Aside0.mk ((by rw [hg]; exact (below_size (by repeat (first | (with_reducible first | exact HB.out | apply below_alloc | apply pw_below_drewN | apply below_drew1 | refine below_set ?_ GE362.out) | exact HB.out))) : w.heap.size ≤ gb364)); have n5_ := Aside0.mk ((by rw [hg]; exact Nat.ne_of_lt (blk_lt (g := gb362) (o := .cells #[.int .i64 a0_0, .slice (some ad363) l0_1.length c0_1, .bool a0_2] 27 (0, 0)) (by (with_reducible repeat (first | refine blk_drewN ?_ _ | refine blk_drew ?_ | refine blk_alloc ?_ _)); exact BK362.out)) : gb362 ≠ gb364)); have n6_ := Aside0.mk ((by rw [hg]; exact Nat.ne_of_gt (blk_lt (g := gb362) (o := .cells #[.int .i64 a0_0, .slice (some ad363) l0_1.length c0_1, .bool a0_2] 27 (0, 0)) (by (with_reducible repeat (first | refine blk_drewN ?_ _ | refine blk_drew ?_ | refine blk_alloc ?_ _)); exact BK362.out)) : gb364 ≠ gb362)); clear BK362; clear HB; have BK362 := n0_; have HB := n1_; have BK364 := n2_; have GW364 := n3_; have GE364 := n4_; have NB362_364 := n5_; have NB364_362 := n6_; clear n0_ n1_ n2_ n3_ n4_ n5_ n6_; clear hb hbox hg; have hnb19 := NB364_362.out; have hnc19 := NB362_364.out; have hcz20_0 : w18.cell? ⟨gb364, 0, none⟩ = some (.string (⟨#[]⟩ : ByteArray)) := (blk_cell BK364.out 0).trans rfl; have hcz20_1 : w18.cell? ⟨gb364, 1, none⟩ = some (.string (⟨#[]⟩ : ByteArray)) := (blk_cell BK364.out 1).trans rfl; have hcz20_2 : w18.cell? ⟨gb364, 2, none⟩ = some (.int .i64 0) := (blk_cell BK364.out 2).trans rfl; have hfz20_0 := blk_frozen BK364.out 0; have hfz20_1 := blk_frozen BK364.out 1; have hfz20_2 := blk_frozen BK364.out 2) | (go_at_call 14; (with_reducible refine (cressetref03_Key.calls ((rd_T74 l0_1 x3_2).f0) t365 _ A12.out).mono ?_); rintro e w' ⟨rfl, ⟨nd, rfl⟩⟩; (try first | exact ⟨rfl, _, World.drewN_drewN _ _ _⟩ | exact ⟨rfl, _, Eq.trans (World.drewN_drewN _ _ _) (congrArg (World.drewN _) (Nat.add_assoc _ _ _))⟩)) | (go_at_call 16; (with_reducible refine (cressetref03_Value.calls ((rd_T74 l0_1 x3_2).f1) t366 _ A14.out).mono ?_); rintro e w' ⟨rfl, ⟨nd, rfl⟩⟩; (try first | exact ⟨rfl, _, World.drewN_drewN _ _ _⟩ | exact ⟨rfl, _, Eq.trans (World.drewN_drewN _ _ _) (congrArg (World.drewN _) (Nat.add_assoc _ _ _))⟩)))
          repeat (go_quiet (first | ((with_reducible refine gate_dst (N := 4) rfl ?_); (try (refine gate_guard (by rfl) ?_; dsimp only)); refine box_event ?hg (N := 4) ?hd (cs := #[.string (⟨#[]⟩ : ByteArray), .string (⟨#[]⟩ : ByteArray), .int .i64 0]) (t := 74) ?hr ?_; (case hd => rfl); (case hg => rfl); (case hr => first | (go_simp; done) | (go_simp; rfl)); intro gb364 hg w18 hbox hb; have n0_ := Aside0.mk (blk_below (g := gb362) (o := .cells #[.int .i64 a0_0, .slice (some ad363) l0_1.length c0_1, .bool a0_2] 27 (0, 0)) (by (with_reducible repeat (first | refine blk_drewN ?_ _ | refine blk_drew ?_ | refine blk_alloc ?_ _)); exact BK362.out) hb); have n1_ := Aside0.mk (below_step (by repeat (first | (with_reducible first | exact HB.out | apply below_alloc | apply pw_below_drewN | apply below_drew1 | refine below_set ?_ GE362.out) | exact HB.out)) hb); have n2_ := Aside0.mk (hbox); have n3_ := Aside0.mk ((by rw [hg]; exact (below_size (by repeat (first | (with_reducible first | exact HB.out | apply below_alloc | apply pw_below_drewN | apply below_drew1 | refine below_set ?_ GE362.out) | exact HB.out))) : w.heap.size ≤ gb364)); have n4_ := Aside0.mk ((by rw [hg]; exact (below_size (by repeat (first | (with_reducible first | exact HB.out | apply below_alloc | apply pw_below_drewN | apply below_drew1 | refine below_set ?_ GE362.out) | exact HB.out))) : w.heap.size ≤ gb364)); have n5_ := Aside0.mk ((by rw [hg]; exact Nat.ne_of_lt (blk_lt (g := gb362) (o := .cells #[.int .i64 a0_0, .slice (some ad363) l0_1.length c0_1, .bool a0_2] 27 (0, 0)) (by (with_reducible repeat (first | refine blk_drewN ?_ _ | refine blk_drew ?_ | refine blk_alloc ?_ _)); exact BK362.out)) : gb362 ≠ gb364)); have n6_ := Aside0.mk ((by rw [hg]; exact Nat.ne_of_gt (blk_lt (g := gb362) (o := .cells #[.int .i64 a0_0, .slice (some ad363) l0_1.length c0_1, .bool a0_2] 27 (0, 0)) (by (with_reducible repeat (first | refine blk_drewN ?_ _ | refine blk_drew ?_ | refine blk_alloc ?_ _)); exact BK362.out)) : gb364 ≠ gb362)); clear BK362; clear HB; have BK362 := n0_; have HB := n1_; have BK364 := n2_; have GW364 := n3_; have GE364 := n4_; have NB362_364 := n5_; have NB364_362 := n6_; clear n0_ n1_ n2_ n3_ n4_ n5_ n6_; clear hb hbox hg; have hnb19 := NB364_362.out; have hnc19 := NB362_364.out; have hcz20_0 : w18.cell? ⟨gb364, 0, none⟩ = some (.string (⟨#[]⟩ : ByteArray)) := (blk_cell BK364.out 0).trans rfl; have hcz20_1 : w18.cell? ⟨gb364, 1, none⟩ = some (.string (⟨#[]⟩ : ByteArray)) := (blk_cell BK364.out 1).trans rfl; have hcz20_2 : w18.cell? ⟨gb364, 2, none⟩ = some (.int .i64 0) := (blk_cell BK364.out 2).trans rfl; have hfz20_0 := blk_frozen BK364.out 0; have hfz20_1 := blk_frozen BK364.out 1; have hfz20_2 := blk_frozen BK364.out 2) | (go_at_call 14; (with_reducible refine (cressetref03_Key.calls ((rd_T74 l0_1 x3_2).f0) t365 _ A12.out).mono ?_); rintro e w' ⟨rfl, ⟨nd, rfl⟩⟩; (try first | exact ⟨rfl, _, World.drewN_drewN _ _ _⟩ | exact ⟨rfl, _, Eq.trans (World.drewN_drewN _ _ _) (congrArg (World.drewN _) (Nat.add_assoc _ _ _))⟩)) | (go_at_call 16; (with_reducible refine (cressetref03_Value.calls ((rd_T74 l0_1 x3_2).f1) t366 _ A14.out).mono ?_); rintro e w' ⟨rfl, ⟨nd, rfl⟩⟩; (try first | exact ⟨rfl, _, World.drewN_drewN _ _ _⟩ | exact ⟨rfl, _, Eq.trans (World.drewN_drewN _ _ _) (congrArg (World.drewN _) (Nat.add_assoc _ _ _))⟩))); go_upto_region 13 with (first | ((with_reducible refine gate_dst (N := 4) rfl ?_); (try (refine gate_guard (by rfl) ?_; dsimp only)); refine box_event ?hg (N := 4) ?hd (cs := #[.string (⟨#[]⟩ : ByteArray), .string (⟨#[]⟩ : ByteArray), .int .i64 0]) (t := 74) ?hr ?_; (case hd => rfl); (case hg => rfl); (case hr => first | (go_simp; done) | (go_simp; rfl)); intro gb364 hg w18 hbox hb; have n0_ := Aside0.mk (blk_below (g := gb362) (o := .cells #[.int .i64 a0_0, .slice (some ad363) l0_1.length c0_1, .bool a0_2] 27 (0, 0)) (by (with_reducible repeat (first | refine blk_drewN ?_ _ | refine blk_drew ?_ | refine blk_alloc ?_ _)); exact BK362.out) hb); have n1_ := Aside0.mk (below_step (by repeat (first | (with_reducible first | exact HB.out | apply below_alloc | apply pw_below_drewN | apply below_drew1 | refine below_set ?_ GE362.out) | exact HB.out)) hb); have n2_ := Aside0.mk (hbox); have n3_ := Aside0.mk ((by rw [hg]; exact (below_size (by repeat (first | (with_reducible first | exact HB.out | apply below_alloc | apply pw_below_drewN | apply below_drew1 | refine below_set ?_ GE362.out) | exact HB.out))) : w.heap.size ≤ gb364)); have n4_ := Aside0.mk ((by rw [hg]; exact (below_size (by repeat (first | (with_reducible first | exact HB.out | apply below_alloc | apply pw_below_drewN | apply below_drew1 | refine below_set ?_ GE362.out) | exact HB.out))) : w.heap.size ≤ gb364)); have n5_ := Aside0.mk ((by rw [hg]; exact Nat.ne_of_lt (blk_lt (g := gb362) (o := .cells #[.int .i64 a0_0, .slice (some ad363) l0_1.length c0_1, .bool a0_2] 27 (0, 0)) (by (with_reducible repeat (first | refine blk_drewN ?_ _ | refine blk_drew ?_ | refine blk_alloc ?_ _)); exact BK362.out)) : gb362 ≠ gb364)); have n6_ := Aside0.mk ((by rw [hg]; exact Nat.ne_of_gt (blk_lt (g := gb362) (o := .cells #[.int .i64 a0_0, .slice (some ad363) l0_1.length c0_1, .bool a0_2] 27 (0, 0)) (by (with_reducible repeat (first | refine blk_drewN ?_ _ | refine blk_drew ?_ | refine blk_alloc ?_ _)); exact BK362.out)) : gb364 ≠ gb362)); clear BK362; clear HB; have BK362 := n0_; have HB := n1_; have BK364 := n2_; have GW364 := n3_; have GE364 := n4_; have NB362_364 := n5_; have NB364_362 := n6_; clear n0_ n1_ n2_ n3_ n4_ n5_ n6_; clear hb hbox hg; have hnb19 := NB364_362.out; have hnc19 := NB362_364.out; have hcz20_0 : w18.cell? ⟨gb364, 0, none⟩ = some (.string (⟨#[]⟩ : ByteArray)) := (blk_cell BK364.out 0).trans rfl; have hcz20_1 : w18.cell? ⟨gb364, 1, none⟩ = some (.string (⟨#[]⟩ : ByteArray)) := (blk_cell BK364.out 1).trans rfl; have hcz20_2 : w18.cell? ⟨gb364, 2, none⟩ = some (.int .i64 0) := (blk_cell BK364.out 2).trans rfl; have hfz20_0 := blk_frozen BK364.out 0; have hfz20_1 := blk_frozen BK364.out 1; have hfz20_2 := blk_frozen BK364.out 2) | (go_at_call 14; (with_reducible refine (cressetref03_Key.calls ((rd_T74 l0_1 x3_2).f0) t365 _ A12.out).mono ?_); rintro e w' ⟨rfl, ⟨nd, rfl⟩⟩; (try first | exact ⟨rfl, _, World.drewN_drewN _ _ _⟩ | exact ⟨rfl, _, Eq.trans (World.drewN_drewN _ _ _) (congrArg (World.drewN _) (Nat.add_assoc _ _ _))⟩)) | (go_at_call 16; (with_reducible refine (cressetref03_Value.calls ((rd_T74 l0_1 x3_2).f1) t366 _ A14.out).mono ?_); rintro e w' ⟨rfl, ⟨nd, rfl⟩⟩; (try first | exact ⟨rfl, _, World.drewN_drewN _ _ _⟩ | exact ⟨rfl, _, Eq.trans (World.drewN_drewN _ _ _) (congrArg (World.drewN _) (Nat.add_assoc _ _ _))⟩))))
          (try simp only [Act.put, List.setIfInBounds_toArray, List.set_cons_zero, List.set_cons_succ])
          go_cut [64] (fun v64 wc => ∃ (kq : Nat) (x64_15 : Bool), v64 = .bool x64_15 ∧ Aside0 (cressetref03_CheckChunk.j2 kq x3_2 x64_15 a0_0 l0_1 a0_2 = some r) ∧ Aside0 (kq ≤ k2) ∧ Aside0 (wc.heap[gb362]? = some (.cells #[.int .i64 a0_0, (.slice (some ad363) l0_1.length c0_1), .bool a0_2] 27 (0, 0))) ∧ Aside0 (wc.heap[gb364]? = some (.cells #[.string ((rd_T74 l0_1 x3_2).f0), .string ((rd_T74 l0_1 x3_2).f1), .int .i64 ((rd_T74 l0_1 x3_2).f2)] 74 (0, 0))) ∧ Aside0 (Below w.heap.size w wc))
          case first =>
           have H := HC16.out
           clear HC16
           replace H := Option.bind_eq_some_iff.mp H
           obtain ⟨t367, A210, H⟩ := H
           replace H : (if t367 = true then (if x3_2 > 0 then (if 0 ≤ (wrap64 (x3_2 - 1)) then (if (wrap64 (x3_2 - 1)) < (l0_1.length : Int) then (cressetref03_CheckChunk.j2 k2 x3_2 (!(Op.bytesLess (((rd_T74 l0_1 (wrap64 (x3_2 - 1))).f0).toList) (((rd_T74 l0_1 x3_2).f0).toList))) a0_0 l0_1 a0_2) else (none)) else (none)) else (cressetref03_CheckChunk.j2 k2 x3_2 false a0_0 l0_1 a0_2)) else (cressetref03_CheckChunk.j2 k2 x3_2 true a0_0 l0_1 a0_2)) = some r := H
           have A21 := Aside0.mk A210
           clear A210
           by_cases c22 : t367 = true
           ·
            subst c22
            have H1 : (if x3_2 > 0 then (if 0 ≤ (wrap64 (x3_2 - 1)) then (if (wrap64 (x3_2 - 1)) < (l0_1.length : Int) then (cressetref03_CheckChunk.j2 k2 x3_2 (!(Op.bytesLess (((rd_T74 l0_1 (wrap64 (x3_2 - 1))).f0).toList) (((rd_T74 l0_1 x3_2).f0).toList))) a0_0 l0_1 a0_2) else (none)) else (none)) else (cressetref03_CheckChunk.j2 k2 x3_2 false a0_0 l0_1 a0_2)) = some r := by rw [if_pos rfl] at H; first | done | exact H
            clear H
            have H := H1
            clear H1
            by_cases c23 : x3_2 > 0
            ·
             rw [if_pos c23] at H
             have c23b0 : decide (0 < x3_2) = true := decide_eq_true c23
             clear c23
             (first | rw [c23b0] | (simp only [i64_w, i32_w]; rw [c23b0]) | skip)
             obtain ⟨ji24, hji24⟩ : ∃ j_ : Int, (wrap64 (x3_2 - 1)) = j_ := ⟨_, rfl⟩
             replace H : (if 0 ≤ (ji24) then (if (ji24) < (l0_1.length : Int) then (cressetref03_CheckChunk.j2 k2 x3_2 (!(Op.bytesLess (((rd_T74 l0_1 (ji24)).f0).toList) (((rd_T74 l0_1 x3_2).f0).toList))) a0_0 l0_1 a0_2) else (none)) else (none)) = some r := by first | (rw [hji24] at H; first | done | exact H) | (simp only [hji24] at H ⊢; exact H)
             (try rw [hji24] at A21)
             have hji24w : (IntKind.i64.wrap (x3_2 - 1)) = ji24 := (i64_w _).trans hji24
             by_cases c25 : 0 ≤ (ji24)
             ·
              rw [if_pos c25] at H
              have c25b0 : decide (0 ≤ (ji24)) = true := decide_eq_true c25
              clear c25
              by_cases c26 : (ji24) < (l0_1.length : Int)
              ·
               rw [if_pos c26] at H
               have c26b0 : decide ((ji24) < (l0_1.length : Int)) = true := decide_eq_true c26
               clear c26
               have H' := Aside0.mk H
               clear H
               have hnb27 := NB364_362.out
               have hnc27 := NB362_364.out
               have hcz28_0 : w18.cell? ⟨gb364, 0, none⟩ = some (.string (⟨#[]⟩ : ByteArray)) := (blk_cell BK364.out 0).trans rfl
               have hcz28_1 : w18.cell? ⟨gb364, 1, none⟩ = some (.string (⟨#[]⟩ : ByteArray)) := (blk_cell BK364.out 1).trans rfl
               have hcz28_2 : w18.cell? ⟨gb364, 2, none⟩ = some (.int .i64 0) := (blk_cell BK364.out 2).trans rfl
               have hfz28_0 := blk_frozen BK364.out 0
               have hfz28_1 := blk_frozen BK364.out 1
               have hfz28_2 := blk_frozen BK364.out 2
               go_wp2_with (first | (go_at_call 49; (with_reducible refine (cressetref03_ts.calls ((rd_T74 l0_1 x3_2).f2) true _ A21.out).mono ?_); rintro e w' ⟨rfl, ⟨nd, rfl⟩⟩; (try first | exact ⟨rfl, _, World.drewN_drewN _ _ _⟩ | exact ⟨rfl, _, Eq.trans (World.drewN_drewN _ _ _) (congrArg (World.drewN _) (Nat.add_assoc _ _ _))⟩); have hcz29_0 : w18.cell? ⟨gb362, 0, none⟩ = some (.int .i64 a0_0) := (blk_cell BK362.out 0).trans rfl; have hcz29_1 : w18.cell? ⟨gb362, 1, none⟩ = some (.slice (some ad363) l0_1.length c0_1) := (blk_cell BK362.out 1).trans rfl; have hcz29_2 : w18.cell? ⟨gb362, 2, none⟩ = some (.bool a0_2) := (blk_cell BK362.out 2).trans rfl; have hfz29_0 := blk_frozen BK362.out 0; have hfz29_1 := blk_frozen BK362.out 1; have hfz29_2 := blk_frozen BK362.out 2; have p368 : 0 ≤ ((ji24) : Int) := of_decide_eq_true (by first | (with_reducible assumption) | assumption); have q368 : (ji24) < (l0_1.length : Int) := of_decide_eq_true (by first | (with_reducible assumption) | assumption); obtain ⟨ad368, e368, hx368_0, hx368_1, hx368_2⟩ := at_T74 HR0_1.out (ji24) p368 q368; obtain rfl : ad363 = ad368 := (by injection e368); have hn368_0 : ad363.block ≠ gb364 := Nat.ne_of_lt (Nat.lt_of_lt_of_le (by have := World.block_lt_of_cell? _ _ hx368_0; first | rwa [add_block] at this | exact this) GW364.out); have hn368_1 : ad363.block ≠ gb364 := Nat.ne_of_lt (Nat.lt_of_lt_of_le (by have := World.block_lt_of_cell? _ _ hx368_0; first | rwa [add_block] at this | exact this) GW364.out); have hn368_2 : ad363.block ≠ gb364 := Nat.ne_of_lt (Nat.lt_of_lt_of_le (by have := World.block_lt_of_cell? _ _ hx368_0; first | rwa [add_block] at this | exact this) GW364.out); replace hx368_0 := (HB.out.cell (World.block_lt_of_cell? w _ hx368_0)).trans hx368_0; replace hx368_1 := (HB.out.cell (World.block_lt_of_cell? w _ hx368_1)).trans hx368_1; replace hx368_2 := (HB.out.cell (World.block_lt_of_cell? w _ hx368_2)).trans hx368_2; replace hx368_0 := (cell_far (p := ⟨gb364, 0, none⟩) (by first | (rw [add_block]; exact hn368_0) | (show (Addr.add _ _).block ≠ _; rw [add_block]; exact hn368_0) | exact hn368_0) (.string ((rd_T74 l0_1 x3_2).f0))).trans hx368_0; replace hx368_1 := (cell_far (p := ⟨gb364, 0, none⟩) (by first | (rw [add_block]; exact hn368_0) | (show (Addr.add _ _).block ≠ _; rw [add_block]; exact hn368_0) | exact hn368_0) (.string ((rd_T74 l0_1 x3_2).f0))).trans hx368_1; replace hx368_2 := (cell_far (p := ⟨gb364, 0, none⟩) (by first | (rw [add_block]; exact hn368_0) | (show (Addr.add _ _).block ≠ _; rw [add_block]; exact hn368_0) | exact hn368_0) (.string ((rd_T74 l0_1 x3_2).f0))).trans hx368_2; replace hx368_0 := (cell_far (p := ⟨gb364, 1, none⟩) (by first | (rw [add_block]; exact hn368_1) | (show (Addr.add _ _).block ≠ _; rw [add_block]; exact hn368_1) | exact hn368_1) (.string ((rd_T74 l0_1 x3_2).f1))).trans hx368_0; replace hx368_1 := (cell_far (p := ⟨gb364, 1, none⟩) (by first | (rw [add_block]; exact hn368_1) | (show (Addr.add _ _).block ≠ _; rw [add_block]; exact hn368_1) | exact hn368_1) (.string ((rd_T74 l0_1 x3_2).f1))).trans hx368_1; replace hx368_2 := (cell_far (p := ⟨gb364, 1, none⟩) (by first | (rw [add_block]; exact hn368_1) | (show (Addr.add _ _).block ≠ _; rw [add_block]; exact hn368_1) | exact hn368_1) (.string ((rd_T74 l0_1 x3_2).f1))).trans hx368_2; replace hx368_0 := (cell_far (p := ⟨gb364, 2, none⟩) (by first | (rw [add_block]; exact hn368_2) | (show (Addr.add _ _).block ≠ _; rw [add_block]; exact hn368_2) | exact hn368_2) (.int .i64 ((rd_T74 l0_1 x3_2).f2))).trans hx368_0; replace hx368_1 := (cell_far (p := ⟨gb364, 2, none⟩) (by first | (rw [add_block]; exact hn368_2) | (show (Addr.add _ _).block ≠ _; rw [add_block]; exact hn368_2) | exact hn368_2) (.int .i64 ((rd_T74 l0_1 x3_2).f2))).trans hx368_1; replace hx368_2 := (cell_far (p := ⟨gb364, 2, none⟩) (by first | (rw [add_block]; exact hn368_2) | (show (Addr.add _ _).block ≠ _; rw [add_block]; exact hn368_2) | exact hn368_2) (.int .i64 ((rd_T74 l0_1 x3_2).f2))).trans hx368_2; (try have hy368_0 := fun (n_ : Nat) => (show (((((w18.drewN n_).setCell ⟨gb364, 0, none⟩ (.string ((rd_T74 l0_1 x3_2).f0))).setCell ⟨gb364, 1, none⟩ (.string ((rd_T74 l0_1 x3_2).f1))).setCell ⟨gb364, 2, none⟩ (.int .i64 ((rd_T74 l0_1 x3_2).f2)))).cell? _ = some _ from hx368_0)); (try have hy368_1 := fun (n_ : Nat) => (show (((((w18.drewN n_).setCell ⟨gb364, 0, none⟩ (.string ((rd_T74 l0_1 x3_2).f0))).setCell ⟨gb364, 1, none⟩ (.string ((rd_T74 l0_1 x3_2).f1))).setCell ⟨gb364, 2, none⟩ (.int .i64 ((rd_T74 l0_1 x3_2).f2)))).cell? _ = some _ from hx368_1)); (try have hy368_2 := fun (n_ : Nat) => (show (((((w18.drewN n_).setCell ⟨gb364, 0, none⟩ (.string ((rd_T74 l0_1 x3_2).f0))).setCell ⟨gb364, 1, none⟩ (.string ((rd_T74 l0_1 x3_2).f1))).setCell ⟨gb364, 2, none⟩ (.int .i64 ((rd_T74 l0_1 x3_2).f2)))).cell? _ = some _ from hx368_2)); clear hn368_0; clear hn368_1; clear hn368_2; replace p368 := eq_true p368; replace q368 := eq_true q368))
               repeat (go_quiet (first | (go_at_call 49; (with_reducible refine (cressetref03_ts.calls ((rd_T74 l0_1 x3_2).f2) true _ A21.out).mono ?_); rintro e w' ⟨rfl, ⟨nd, rfl⟩⟩; (try first | exact ⟨rfl, _, World.drewN_drewN _ _ _⟩ | exact ⟨rfl, _, Eq.trans (World.drewN_drewN _ _ _) (congrArg (World.drewN _) (Nat.add_assoc _ _ _))⟩); have hcz29_0 : w18.cell? ⟨gb362, 0, none⟩ = some (.int .i64 a0_0) := (blk_cell BK362.out 0).trans rfl; have hcz29_1 : w18.cell? ⟨gb362, 1, none⟩ = some (.slice (some ad363) l0_1.length c0_1) := (blk_cell BK362.out 1).trans rfl; have hcz29_2 : w18.cell? ⟨gb362, 2, none⟩ = some (.bool a0_2) := (blk_cell BK362.out 2).trans rfl; have hfz29_0 := blk_frozen BK362.out 0; have hfz29_1 := blk_frozen BK362.out 1; have hfz29_2 := blk_frozen BK362.out 2; have p368 : 0 ≤ ((ji24) : Int) := of_decide_eq_true (by first | (with_reducible assumption) | assumption); have q368 : (ji24) < (l0_1.length : Int) := of_decide_eq_true (by first | (with_reducible assumption) | assumption); obtain ⟨ad368, e368, hx368_0, hx368_1, hx368_2⟩ := at_T74 HR0_1.out (ji24) p368 q368; obtain rfl : ad363 = ad368 := (by injection e368); have hn368_0 : ad363.block ≠ gb364 := Nat.ne_of_lt (Nat.lt_of_lt_of_le (by have := World.block_lt_of_cell? _ _ hx368_0; first | rwa [add_block] at this | exact this) GW364.out); have hn368_1 : ad363.block ≠ gb364 := Nat.ne_of_lt (Nat.lt_of_lt_of_le (by have := World.block_lt_of_cell? _ _ hx368_0; first | rwa [add_block] at this | exact this) GW364.out); have hn368_2 : ad363.block ≠ gb364 := Nat.ne_of_lt (Nat.lt_of_lt_of_le (by have := World.block_lt_of_cell? _ _ hx368_0; first | rwa [add_block] at this | exact this) GW364.out); replace hx368_0 := (HB.out.cell (World.block_lt_of_cell? w _ hx368_0)).trans hx368_0; replace hx368_1 := (HB.out.cell (World.block_lt_of_cell? w _ hx368_1)).trans hx368_1; replace hx368_2 := (HB.out.cell (World.block_lt_of_cell? w _ hx368_2)).trans hx368_2; replace hx368_0 := (cell_far (p := ⟨gb364, 0, none⟩) (by first | (rw [add_block]; exact hn368_0) | (show (Addr.add _ _).block ≠ _; rw [add_block]; exact hn368_0) | exact hn368_0) (.string ((rd_T74 l0_1 x3_2).f0))).trans hx368_0; replace hx368_1 := (cell_far (p := ⟨gb364, 0, none⟩) (by first | (rw [add_block]; exact hn368_0) | (show (Addr.add _ _).block ≠ _; rw [add_block]; exact hn368_0) | exact hn368_0) (.string ((rd_T74 l0_1 x3_2).f0))).trans hx368_1; replace hx368_2 := (cell_far (p := ⟨gb364, 0, none⟩) (by first | (rw [add_block]; exact hn368_0) | (show (Addr.add _ _).block ≠ _; rw [add_block]; exact hn368_0) | exact hn368_0) (.string ((rd_T74 l0_1 x3_2).f0))).trans hx368_2; replace hx368_0 := (cell_far (p := ⟨gb364, 1, none⟩) (by first | (rw [add_block]; exact hn368_1) | (show (Addr.add _ _).block ≠ _; rw [add_block]; exact hn368_1) | exact hn368_1) (.string ((rd_T74 l0_1 x3_2).f1))).trans hx368_0; replace hx368_1 := (cell_far (p := ⟨gb364, 1, none⟩) (by first | (rw [add_block]; exact hn368_1) | (show (Addr.add _ _).block ≠ _; rw [add_block]; exact hn368_1) | exact hn368_1) (.string ((rd_T74 l0_1 x3_2).f1))).trans hx368_1; replace hx368_2 := (cell_far (p := ⟨gb364, 1, none⟩) (by first | (rw [add_block]; exact hn368_1) | (show (Addr.add _ _).block ≠ _; rw [add_block]; exact hn368_1) | exact hn368_1) (.string ((rd_T74 l0_1 x3_2).f1))).trans hx368_2; replace hx368_0 := (cell_far (p := ⟨gb364, 2, none⟩) (by first | (rw [add_block]; exact hn368_2) | (show (Addr.add _ _).block ≠ _; rw [add_block]; exact hn368_2) | exact hn368_2) (.int .i64 ((rd_T74 l0_1 x3_2).f2))).trans hx368_0; replace hx368_1 := (cell_far (p := ⟨gb364, 2, none⟩) (by first | (rw [add_block]; exact hn368_2) | (show (Addr.add _ _).block ≠ _; rw [add_block]; exact hn368_2) | exact hn368_2) (.int .i64 ((rd_T74 l0_1 x3_2).f2))).trans hx368_1; replace hx368_2 := (cell_far (p := ⟨gb364, 2, none⟩) (by first | (rw [add_block]; exact hn368_2) | (show (Addr.add _ _).block ≠ _; rw [add_block]; exact hn368_2) | exact hn368_2) (.int .i64 ((rd_T74 l0_1 x3_2).f2))).trans hx368_2; (try have hy368_0 := fun (n_ : Nat) => (show (((((w18.drewN n_).setCell ⟨gb364, 0, none⟩ (.string ((rd_T74 l0_1 x3_2).f0))).setCell ⟨gb364, 1, none⟩ (.string ((rd_T74 l0_1 x3_2).f1))).setCell ⟨gb364, 2, none⟩ (.int .i64 ((rd_T74 l0_1 x3_2).f2)))).cell? _ = some _ from hx368_0)); (try have hy368_1 := fun (n_ : Nat) => (show (((((w18.drewN n_).setCell ⟨gb364, 0, none⟩ (.string ((rd_T74 l0_1 x3_2).f0))).setCell ⟨gb364, 1, none⟩ (.string ((rd_T74 l0_1 x3_2).f1))).setCell ⟨gb364, 2, none⟩ (.int .i64 ((rd_T74 l0_1 x3_2).f2)))).cell? _ = some _ from hx368_1)); (try have hy368_2 := fun (n_ : Nat) => (show (((((w18.drewN n_).setCell ⟨gb364, 0, none⟩ (.string ((rd_T74 l0_1 x3_2).f0))).setCell ⟨gb364, 1, none⟩ (.string ((rd_T74 l0_1 x3_2).f1))).setCell ⟨gb364, 2, none⟩ (.int .i64 ((rd_T74 l0_1 x3_2).f2)))).cell? _ = some _ from hx368_2)); clear hn368_0; clear hn368_1; clear hn368_2; replace p368 := eq_true p368; replace q368 := eq_true q368)); try go_wp2_with (first | (go_at_call 49; (with_reducible refine (cressetref03_ts.calls ((rd_T74 l0_1 x3_2).f2) true _ A21.out).mono ?_); rintro e w' ⟨rfl, ⟨nd, rfl⟩⟩; (try first | exact ⟨rfl, _, World.drewN_drewN _ _ _⟩ | exact ⟨rfl, _, Eq.trans (World.drewN_drewN _ _ _) (congrArg (World.drewN _) (Nat.add_assoc _ _ _))⟩); have hcz29_0 : w18.cell? ⟨gb362, 0, none⟩ = some (.int .i64 a0_0) := (blk_cell BK362.out 0).trans rfl; have hcz29_1 : w18.cell? ⟨gb362, 1, none⟩ = some (.slice (some ad363) l0_1.length c0_1) := (blk_cell BK362.out 1).trans rfl; have hcz29_2 : w18.cell? ⟨gb362, 2, none⟩ = some (.bool a0_2) := (blk_cell BK362.out 2).trans rfl; have hfz29_0 := blk_frozen BK362.out 0; have hfz29_1 := blk_frozen BK362.out 1; have hfz29_2 := blk_frozen BK362.out 2; have p368 : 0 ≤ ((ji24) : Int) := of_decide_eq_true (by first | (with_reducible assumption) | assumption); have q368 : (ji24) < (l0_1.length : Int) := of_decide_eq_true (by first | (with_reducible assumption) | assumption); obtain ⟨ad368, e368, hx368_0, hx368_1, hx368_2⟩ := at_T74 HR0_1.out (ji24) p368 q368; obtain rfl : ad363 = ad368 := (by injection e368); have hn368_0 : ad363.block ≠ gb364 := Nat.ne_of_lt (Nat.lt_of_lt_of_le (by have := World.block_lt_of_cell? _ _ hx368_0; first | rwa [add_block] at this | exact this) GW364.out); have hn368_1 : ad363.block ≠ gb364 := Nat.ne_of_lt (Nat.lt_of_lt_of_le (by have := World.block_lt_of_cell? _ _ hx368_0; first | rwa [add_block] at this | exact this) GW364.out); have hn368_2 : ad363.block ≠ gb364 := Nat.ne_of_lt (Nat.lt_of_lt_of_le (by have := World.block_lt_of_cell? _ _ hx368_0; first | rwa [add_block] at this | exact this) GW364.out); replace hx368_0 := (HB.out.cell (World.block_lt_of_cell? w _ hx368_0)).trans hx368_0; replace hx368_1 := (HB.out.cell (World.block_lt_of_cell? w _ hx368_1)).trans hx368_1; replace hx368_2 := (HB.out.cell (World.block_lt_of_cell? w _ hx368_2)).trans hx368_2; replace hx368_0 := (cell_far (p := ⟨gb364, 0, none⟩) (by first | (rw [add_block]; exact hn368_0) | (show (Addr.add _ _).block ≠ _; rw [add_block]; exact hn368_0) | exact hn368_0) (.string ((rd_T74 l0_1 x3_2).f0))).trans hx368_0; replace hx368_1 := (cell_far (p := ⟨gb364, 0, none⟩) (by first | (rw [add_block]; exact hn368_0) | (show (Addr.add _ _).block ≠ _; rw [add_block]; exact hn368_0) | exact hn368_0) (.string ((rd_T74 l0_1 x3_2).f0))).trans hx368_1; replace hx368_2 := (cell_far (p := ⟨gb364, 0, none⟩) (by first | (rw [add_block]; exact hn368_0) | (show (Addr.add _ _).block ≠ _; rw [add_block]; exact hn368_0) | exact hn368_0) (.string ((rd_T74 l0_1 x3_2).f0))).trans hx368_2; replace hx368_0 := (cell_far (p := ⟨gb364, 1, none⟩) (by first | (rw [add_block]; exact hn368_1) | (show (Addr.add _ _).block ≠ _; rw [add_block]; exact hn368_1) | exact hn368_1) (.string ((rd_T74 l0_1 x3_2).f1))).trans hx368_0; replace hx368_1 := (cell_far (p := ⟨gb364, 1, none⟩) (by first | (rw [add_block]; exact hn368_1) | (show (Addr.add _ _).block ≠ _; rw [add_block]; exact hn368_1) | exact hn368_1) (.string ((rd_T74 l0_1 x3_2).f1))).trans hx368_1; replace hx368_2 := (cell_far (p := ⟨gb364, 1, none⟩) (by first | (rw [add_block]; exact hn368_1) | (show (Addr.add _ _).block ≠ _; rw [add_block]; exact hn368_1) | exact hn368_1) (.string ((rd_T74 l0_1 x3_2).f1))).trans hx368_2; replace hx368_0 := (cell_far (p := ⟨gb364, 2, none⟩) (by first | (rw [add_block]; exact hn368_2) | (show (Addr.add _ _).block ≠ _; rw [add_block]; exact hn368_2) | exact hn368_2) (.int .i64 ((rd_T74 l0_1 x3_2).f2))).trans hx368_0; replace hx368_1 := (cell_far (p := ⟨gb364, 2, none⟩) (by first | (rw [add_block]; exact hn368_2) | (show (Addr.add _ _).block ≠ _; rw [add_block]; exact hn368_2) | exact hn368_2) (.int .i64 ((rd_T74 l0_1 x3_2).f2))).trans hx368_1; replace hx368_2 := (cell_far (p := ⟨gb364, 2, none⟩) (by first | (rw [add_block]; exact hn368_2) | (show (Addr.add _ _).block ≠ _; rw [add_block]; exact hn368_2) | exact hn368_2) (.int .i64 ((rd_T74 l0_1 x3_2).f2))).trans hx368_2; (try have hy368_0 := fun (n_ : Nat) => (show (((((w18.drewN n_).setCell ⟨gb364, 0, none⟩ (.string ((rd_T74 l0_1 x3_2).f0))).setCell ⟨gb364, 1, none⟩ (.string ((rd_T74 l0_1 x3_2).f1))).setCell ⟨gb364, 2, none⟩ (.int .i64 ((rd_T74 l0_1 x3_2).f2)))).cell? _ = some _ from hx368_0)); (try have hy368_1 := fun (n_ : Nat) => (show (((((w18.drewN n_).setCell ⟨gb364, 0, none⟩ (.string ((rd_T74 l0_1 x3_2).f0))).setCell ⟨gb364, 1, none⟩ (.string ((rd_T74 l0_1 x3_2).f1))).setCell ⟨gb364, 2, none⟩ (.int .i64 ((rd_T74 l0_1 x3_2).f2)))).cell? _ = some _ from hx368_1)); (try have hy368_2 := fun (n_ : Nat) => (show (((((w18.drewN n_).setCell ⟨gb364, 0, none⟩ (.string ((rd_T74 l0_1 x3_2).f0))).setCell ⟨gb364, 1, none⟩ (.string ((rd_T74 l0_1 x3_2).f1))).setCell ⟨gb364, 2, none⟩ (.int .i64 ((rd_T74 l0_1 x3_2).f2)))).cell? _ = some _ from hx368_2)); clear hn368_0; clear hn368_1; clear hn368_2; replace p368 := eq_true p368; replace q368 := eq_true q368)))
               go_meet
               case rel => exact ⟨_, (!(Op.bytesLess (((rd_T74 l0_1 (ji24)).f0).toList) (((rd_T74 l0_1 x3_2).f0).toList))), (by first | rfl | (simp; done) | (simp only [← hji24] <;> (first | rfl | simp)) | (simp [*]; done)), H', ⟨by have := HJ1.out; have := HK2.out; first | omega | exact Nat.le_refl _⟩, ⟨by (with_reducible repeat (first | refine blk_drewN ?_ _ | refine blk_drew ?_ | refine blk_alloc ?_ _)); refine blk_far ?_ NB362_364.out _; (with_reducible repeat (first | refine blk_drewN ?_ _ | refine blk_drew ?_ | refine blk_alloc ?_ _)); refine blk_far ?_ NB362_364.out _; (with_reducible repeat (first | refine blk_drewN ?_ _ | refine blk_drew ?_ | refine blk_alloc ?_ _)); refine blk_far ?_ NB362_364.out _; (with_reducible repeat (first | refine blk_drewN ?_ _ | refine blk_drew ?_ | refine blk_alloc ?_ _)); exact BK362.out⟩, ⟨by (with_reducible repeat (first | refine blk_drewN ?_ _ | refine blk_drew ?_ | refine blk_alloc ?_ _)); refine blk_put (cs := #[.string ((rd_T74 l0_1 x3_2).f0), .string ((rd_T74 l0_1 x3_2).f1), .int .i64 0]) ?_ 2 _ rfl; (with_reducible repeat (first | refine blk_drewN ?_ _ | refine blk_drew ?_ | refine blk_alloc ?_ _)); refine blk_put (cs := #[.string ((rd_T74 l0_1 x3_2).f0), .string (⟨#[]⟩ : ByteArray), .int .i64 0]) ?_ 1 _ rfl; (with_reducible repeat (first | refine blk_drewN ?_ _ | refine blk_drew ?_ | refine blk_alloc ?_ _)); refine blk_put (cs := #[.string (⟨#[]⟩ : ByteArray), .string (⟨#[]⟩ : ByteArray), .int .i64 0]) ?_ 0 _ rfl; (with_reducible repeat (first | refine blk_drewN ?_ _ | refine blk_drew ?_ | refine blk_alloc ?_ _)); exact BK364.out⟩, ⟨by repeat (first | (with_reducible first | exact HB.out | apply below_alloc | apply pw_below_drewN | apply below_drew1 | refine below_set ?_ GE362.out | refine below_set ?_ GE364.out) | exact HB.out)⟩⟩
              ·
               rw [if_neg c26] at H
               exact absurd H (by simp)
             ·
              rw [if_neg c25] at H
              exact absurd H (by simp)
            ·
             rw [if_neg c23] at H
             have c23b0 : decide (0 < x3_2) = false := decide_eq_false c23
             clear c23
             (first | rw [c23b0] | (simp only [i64_w, i32_w]; rw [c23b0]) | skip)
             have H' := Aside0.mk H
             clear H
             have hnb30 := NB364_362.out
             have hnc30 := NB362_364.out
             have hcz31_0 : w18.cell? ⟨gb364, 0, none⟩ = some (.string (⟨#[]⟩ : ByteArray)) := (blk_cell BK364.out 0).trans rfl
             have hcz31_1 : w18.cell? ⟨gb364, 1, none⟩ = some (.string (⟨#[]⟩ : ByteArray)) := (blk_cell BK364.out 1).trans rfl
             have hcz31_2 : w18.cell? ⟨gb364, 2, none⟩ = some (.int .i64 0) := (blk_cell BK364.out 2).trans rfl
             have hfz31_0 := blk_frozen BK364.out 0
             have hfz31_1 := blk_frozen BK364.out 1
             have hfz31_2 := blk_frozen BK364.out 2
             go_wp2_with (first | (go_at_call 49; (with_reducible refine (cressetref03_ts.calls ((rd_T74 l0_1 x3_2).f2) true _ A21.out).mono ?_); rintro e w' ⟨rfl, ⟨nd, rfl⟩⟩; (try first | exact ⟨rfl, _, World.drewN_drewN _ _ _⟩ | exact ⟨rfl, _, Eq.trans (World.drewN_drewN _ _ _) (congrArg (World.drewN _) (Nat.add_assoc _ _ _))⟩)))
             repeat (go_quiet (first | (go_at_call 49; (with_reducible refine (cressetref03_ts.calls ((rd_T74 l0_1 x3_2).f2) true _ A21.out).mono ?_); rintro e w' ⟨rfl, ⟨nd, rfl⟩⟩; (try first | exact ⟨rfl, _, World.drewN_drewN _ _ _⟩ | exact ⟨rfl, _, Eq.trans (World.drewN_drewN _ _ _) (congrArg (World.drewN _) (Nat.add_assoc _ _ _))⟩))); try go_wp2_with (first | (go_at_call 49; (with_reducible refine (cressetref03_ts.calls ((rd_T74 l0_1 x3_2).f2) true _ A21.out).mono ?_); rintro e w' ⟨rfl, ⟨nd, rfl⟩⟩; (try first | exact ⟨rfl, _, World.drewN_drewN _ _ _⟩ | exact ⟨rfl, _, Eq.trans (World.drewN_drewN _ _ _) (congrArg (World.drewN _) (Nat.add_assoc _ _ _))⟩))))
             go_meet
             case rel => exact ⟨_, (false), (by first | rfl | (simp; done) | (simp [*]; done)), H', ⟨by have := HJ1.out; have := HK2.out; first | omega | exact Nat.le_refl _⟩, ⟨by (with_reducible repeat (first | refine blk_drewN ?_ _ | refine blk_drew ?_ | refine blk_alloc ?_ _)); refine blk_far ?_ NB362_364.out _; (with_reducible repeat (first | refine blk_drewN ?_ _ | refine blk_drew ?_ | refine blk_alloc ?_ _)); refine blk_far ?_ NB362_364.out _; (with_reducible repeat (first | refine blk_drewN ?_ _ | refine blk_drew ?_ | refine blk_alloc ?_ _)); refine blk_far ?_ NB362_364.out _; (with_reducible repeat (first | refine blk_drewN ?_ _ | refine blk_drew ?_ | refine blk_alloc ?_ _)); exact BK362.out⟩, ⟨by (with_reducible repeat (first | refine blk_drewN ?_ _ | refine blk_drew ?_ | refine blk_alloc ?_ _)); refine blk_put (cs := #[.string ((rd_T74 l0_1 x3_2).f0), .string ((rd_T74 l0_1 x3_2).f1), .int .i64 0]) ?_ 2 _ rfl; (with_reducible repeat (first | refine blk_drewN ?_ _ | refine blk_drew ?_ | refine blk_alloc ?_ _)); refine blk_put (cs := #[.string ((rd_T74 l0_1 x3_2).f0), .string (⟨#[]⟩ : ByteArray), .int .i64 0]) ?_ 1 _ rfl; (with_reducible repeat (first | refine blk_drewN ?_ _ | refine blk_drew ?_ | refine blk_alloc ?_ _)); refine blk_put (cs := #[.string (⟨#[]⟩ : ByteArray), .string (⟨#[]⟩ : ByteArray), .int .i64 0]) ?_ 0 _ rfl; (with_reducible repeat (first | refine blk_drewN ?_ _ | refine blk_drew ?_ | refine blk_alloc ?_ _)); exact BK364.out⟩, ⟨by repeat (first | (with_reducible first | exact HB.out | apply below_alloc | apply pw_below_drewN | apply below_drew1 | refine below_set ?_ GE362.out | refine below_set ?_ GE364.out) | exact HB.out)⟩⟩
           ·
            replace c22 := Bool.eq_false_iff.mpr c22
            subst c22
            have H1 : (cressetref03_CheckChunk.j2 k2 x3_2 true a0_0 l0_1 a0_2) = some r := by rw [if_neg (show ¬ (false = true) by decide)] at H; first | done | exact H
            clear H
            have H := H1
            clear H1
            have H' := Aside0.mk H
            clear H
            have hnb32 := NB364_362.out
            have hnc32 := NB362_364.out
            have hcz33_0 : w18.cell? ⟨gb364, 0, none⟩ = some (.string (⟨#[]⟩ : ByteArray)) := (blk_cell BK364.out 0).trans rfl
            have hcz33_1 : w18.cell? ⟨gb364, 1, none⟩ = some (.string (⟨#[]⟩ : ByteArray)) := (blk_cell BK364.out 1).trans rfl
            have hcz33_2 : w18.cell? ⟨gb364, 2, none⟩ = some (.int .i64 0) := (blk_cell BK364.out 2).trans rfl
            have hfz33_0 := blk_frozen BK364.out 0
            have hfz33_1 := blk_frozen BK364.out 1
            have hfz33_2 := blk_frozen BK364.out 2
            go_wp2_with (first | (go_at_call 49; (with_reducible refine (cressetref03_ts.calls ((rd_T74 l0_1 x3_2).f2) false _ A21.out).mono ?_); rintro e w' ⟨rfl, ⟨nd, rfl⟩⟩; (try first | exact ⟨rfl, _, World.drewN_drewN _ _ _⟩ | exact ⟨rfl, _, Eq.trans (World.drewN_drewN _ _ _) (congrArg (World.drewN _) (Nat.add_assoc _ _ _))⟩)))
            repeat (go_quiet (first | (go_at_call 49; (with_reducible refine (cressetref03_ts.calls ((rd_T74 l0_1 x3_2).f2) false _ A21.out).mono ?_); rintro e w' ⟨rfl, ⟨nd, rfl⟩⟩; (try first | exact ⟨rfl, _, World.drewN_drewN _ _ _⟩ | exact ⟨rfl, _, Eq.trans (World.drewN_drewN _ _ _) (congrArg (World.drewN _) (Nat.add_assoc _ _ _))⟩))); try go_wp2_with (first | (go_at_call 49; (with_reducible refine (cressetref03_ts.calls ((rd_T74 l0_1 x3_2).f2) false _ A21.out).mono ?_); rintro e w' ⟨rfl, ⟨nd, rfl⟩⟩; (try first | exact ⟨rfl, _, World.drewN_drewN _ _ _⟩ | exact ⟨rfl, _, Eq.trans (World.drewN_drewN _ _ _) (congrArg (World.drewN _) (Nat.add_assoc _ _ _))⟩))))
            go_meet
            case rel => exact ⟨_, (true), (by first | rfl | (simp; done) | (simp [*]; done)), H', ⟨by have := HJ1.out; have := HK2.out; first | omega | exact Nat.le_refl _⟩, ⟨by (with_reducible repeat (first | refine blk_drewN ?_ _ | refine blk_drew ?_ | refine blk_alloc ?_ _)); refine blk_far ?_ NB362_364.out _; (with_reducible repeat (first | refine blk_drewN ?_ _ | refine blk_drew ?_ | refine blk_alloc ?_ _)); refine blk_far ?_ NB362_364.out _; (with_reducible repeat (first | refine blk_drewN ?_ _ | refine blk_drew ?_ | refine blk_alloc ?_ _)); refine blk_far ?_ NB362_364.out _; (with_reducible repeat (first | refine blk_drewN ?_ _ | refine blk_drew ?_ | refine blk_alloc ?_ _)); exact BK362.out⟩, ⟨by (with_reducible repeat (first | refine blk_drewN ?_ _ | refine blk_drew ?_ | refine blk_alloc ?_ _)); refine blk_put (cs := #[.string ((rd_T74 l0_1 x3_2).f0), .string ((rd_T74 l0_1 x3_2).f1), .int .i64 0]) ?_ 2 _ rfl; (with_reducible repeat (first | refine blk_drewN ?_ _ | refine blk_drew ?_ | refine blk_alloc ?_ _)); refine blk_put (cs := #[.string ((rd_T74 l0_1 x3_2).f0), .string (⟨#[]⟩ : ByteArray), .int .i64 0]) ?_ 1 _ rfl; (with_reducible repeat (first | refine blk_drewN ?_ _ | refine blk_drew ?_ | refine blk_alloc ?_ _)); refine blk_put (cs := #[.string (⟨#[]⟩ : ByteArray), .string (⟨#[]⟩ : ByteArray), .int .i64 0]) ?_ 0 _ rfl; (with_reducible repeat (first | refine blk_drewN ?_ _ | refine blk_drew ?_ | refine blk_alloc ?_ _)); exact BK364.out⟩, ⟨by repeat (first | (with_reducible first | exact HB.out | apply below_alloc | apply pw_below_drewN | apply below_drew1 | refine below_set ?_ GE362.out | refine below_set ?_ GE364.out) | exact HB.out)⟩⟩
          case rest =>
           clear HC16
           try clear c1
           try clear c2
           try clear p2
           try clear c3
           try clear p3
           try clear q3
           try clear hx3
           try clear c4
           try clear c4b0
           try clear c6
           try clear c6b0
           try clear p6
           try clear c9
           try clear c10
           try clear c10b0
           try clear c11
           try clear c11b0
           try clear c13
           try clear c13b0
           try clear c13b1
           try clear c15
           try clear c15b0
           try clear c15b1
           try clear c19
           try clear c21
           try clear c22
           try clear c23
           try clear c23b0
           try clear c25
           try clear c25b0
           try clear c26
           try clear c26b0
           try clear c27
           try clear c30
           try clear c32
           try clear hcz17_0
           try clear hcz17_1
           try clear hcz17_2
           try clear hcz20_0
           try clear hcz20_1
           try clear hcz20_2
           try clear hcz28_0
           try clear hcz28_1
           try clear hcz28_2
           try clear hcz29_0
           try clear hcz29_1
           try clear hcz29_2
           try clear hcz31_0
           try clear hcz31_1
           try clear hcz31_2
           try clear hcz33_0
           try clear hcz33_1
           try clear hcz33_2
           try clear hcz5_0
           try clear hcz5_1
           try clear hcz5_2
           try clear hcz7_0
           try clear hcz7_1
           try clear hcz7_2
           try clear hcz8_0
           try clear hcz8_1
           try clear hcz8_2
           try clear hfz17_0
           try clear hfz17_1
           try clear hfz17_2
           try clear hfz20_0
           try clear hfz20_1
           try clear hfz20_2
           try clear hfz28_0
           try clear hfz28_1
           try clear hfz28_2
           try clear hfz29_0
           try clear hfz29_1
           try clear hfz29_2
           try clear hfz31_0
           try clear hfz31_1
           try clear hfz31_2
           try clear hfz33_0
           try clear hfz33_1
           try clear hfz33_2
           try clear hfz5_0
           try clear hfz5_1
           try clear hfz5_2
           try clear hfz7_0
           try clear hfz7_1
           try clear hfz7_2
           try clear hfz8_0
           try clear hfz8_1
           try clear hfz8_2
           try clear hx363_0
           try clear hx363_1
           try clear hx363_2
           try clear hx368_0
           try clear hx368_1
           try clear hx368_2
           try clear p2
           try clear p363
           try clear p368
           try clear q363
           try clear q368
           obtain ⟨kq, x64_15, rfl, HA, HJ15, BK362, BK364, HB⟩ := hcut
           cases kq with
           | zero => exact absurd HA.out (by simp [cressetref03_CheckChunk.j2])
           | succ kj15 =>
            have H := HA.out
            clear HA
            simp only [cressetref03_CheckChunk.j2] at H
            by_cases c34 : x64_15 = true
            ·
             subst c34
             have H1 : (some 32) = some r := by rw [if_pos rfl] at H; first | done | exact H
             clear H
             have H := H1
             clear H1
             obtain rfl := Option.some.inj H
             go_wp2
             repeat (go_quiet (fail); try go_wp2)
             go_ret
             exact ⟨by first | rfl | (simp [errW_none, errW_some] <;> rfl) | (simp [*, errW_none, errW_some] <;> rfl), by repeat (first | (with_reducible first | exact HB.out | apply below_alloc | apply pw_below_drewN | apply below_drew1 | refine below_set ?_ GE362.out | refine below_set ?_ GE364.out) | exact HB.out)⟩
            ·
             replace c34 := Bool.eq_false_iff.mpr c34
             subst c34
             have H1 : (cressetref03_CheckChunk.l0 kj15 (wrap64 (x3_2 + 1)) a0_0 l0_1 a0_2) = some r := by rw [if_neg (show ¬ (false = true) by decide)] at H; first | done | exact H
             clear H
             have H := H1
             clear H1
             have H' := Aside0.mk H
             clear H
             go_wp2
             repeat (go_quiet (fail); try go_wp2)
             go_roundg kj15
             case measure => have := HJ1.out; have := HK2.out; have := HJ15.out; omega
             case rel => exact ⟨(wrap64 (x3_2 + 1)), (by first | rfl | (simp; done) | (simp [*]; done)), H', ⟨by have := HJ1.out; have := HK2.out; have := HJ15.out; omega⟩, ⟨by (with_reducible repeat (first | refine blk_drewN ?_ _ | refine blk_drew ?_ | refine blk_alloc ?_ _)); exact BK362.out⟩, ⟨by repeat (first | (with_reducible first | exact HB.out | apply below_alloc | apply pw_below_drewN | apply below_drew1 | refine below_set ?_ GE362.out | refine below_set ?_ GE364.out) | exact HB.out)⟩⟩
         ·
          rw [if_neg c15] at H
          have c15b0 : (t366 == 0) = false := beq_eq_false_iff_ne.mpr c15
          have c15b1 : (t366 != 0) = true := bne_iff_ne.mpr c15
          obtain rfl := Option.some.inj H
          have hcz35_0 : wr.cell? ⟨gb362, 0, none⟩ = some (.int .i64 a0_0) := (blk_cell BK362.out 0).trans rfl
          have hcz35_1 : wr.cell? ⟨gb362, 1, none⟩ = some (.slice A0_1 l0_1.length c0_1) := (blk_cell BK362.out 1).trans rfl
          have hcz35_2 : wr.cell? ⟨gb362, 2, none⟩ = some (.bool a0_2) := (blk_cell BK362.out 2).trans rfl
          have hfz35_0 := blk_frozen BK362.out 0
          have hfz35_1 := blk_frozen BK362.out 1
          have hfz35_2 := blk_frozen BK362.out 2
          have p363 : 0 ≤ (x3_2 : Int) := of_decide_eq_true (by first | (with_reducible assumption) | assumption)
          have q363 : x3_2 < (l0_1.length : Int) := of_decide_eq_true (by first | (with_reducible assumption) | assumption)
          obtain ⟨ad363, e363, hx363_0, hx363_1, hx363_2⟩ := at_T74 HR0_1.out x3_2 p363 q363
          cases e363
          replace hx363_0 := (HB.out.cell (World.block_lt_of_cell? w _ hx363_0)).trans hx363_0
          replace hx363_1 := (HB.out.cell (World.block_lt_of_cell? w _ hx363_1)).trans hx363_1
          replace hx363_2 := (HB.out.cell (World.block_lt_of_cell? w _ hx363_2)).trans hx363_2
          replace p363 := eq_true p363
          replace q363 := eq_true q363
          go_wp2_with (first | ((with_reducible refine gate_dst (N := 4) rfl ?_); (try (refine gate_guard (by rfl) ?_; dsimp only)); refine box_event ?hg (N := 4) ?hd (cs := #[.string (⟨#[]⟩ : ByteArray), .string (⟨#[]⟩ : ByteArray), .int .i64 0]) (t := 74) ?hr ?_; (case hd => rfl); (case hg => rfl); (case hr => first | (go_simp; done) | (go_simp; rfl)); intro gb364 hg w36 hbox hb; have n0_ := Aside0.mk (blk_below (g := gb362) (o := .cells #[.int .i64 a0_0, .slice (some ad363) l0_1.length c0_1, .bool a0_2] 27 (0, 0)) (by (with_reducible repeat (first | refine blk_drewN ?_ _ | refine blk_drew ?_ | refine blk_alloc ?_ _)); exact BK362.out) hb); have n1_ := Aside0.mk (below_step (by repeat (first | (with_reducible first | exact HB.out | apply below_alloc | apply pw_below_drewN | apply below_drew1 | refine below_set ?_ GE362.out) | exact HB.out)) hb); have n2_ := Aside0.mk (hbox); have n3_ := Aside0.mk ((by rw [hg]; exact (below_size (by repeat (first | (with_reducible first | exact HB.out | apply below_alloc | apply pw_below_drewN | apply below_drew1 | refine below_set ?_ GE362.out) | exact HB.out))) : w.heap.size ≤ gb364)); have n4_ := Aside0.mk ((by rw [hg]; exact (below_size (by repeat (first | (with_reducible first | exact HB.out | apply below_alloc | apply pw_below_drewN | apply below_drew1 | refine below_set ?_ GE362.out) | exact HB.out))) : w.heap.size ≤ gb364)); have n5_ := Aside0.mk ((by rw [hg]; exact Nat.ne_of_lt (blk_lt (g := gb362) (o := .cells #[.int .i64 a0_0, .slice (some ad363) l0_1.length c0_1, .bool a0_2] 27 (0, 0)) (by (with_reducible repeat (first | refine blk_drewN ?_ _ | refine blk_drew ?_ | refine blk_alloc ?_ _)); exact BK362.out)) : gb362 ≠ gb364)); have n6_ := Aside0.mk ((by rw [hg]; exact Nat.ne_of_gt (blk_lt (g := gb362) (o := .cells #[.int .i64 a0_0, .slice (some ad363) l0_1.length c0_1, .bool a0_2] 27 (0, 0)) (by (with_reducible repeat (first | refine blk_drewN ?_ _ | refine blk_drew ?_ | refine blk_alloc ?_ _)); exact BK362.out)) : gb364 ≠ gb362)); clear BK362; clear HB; have BK362 := n0_; have HB := n1_; have BK364 := n2_; have GW364 := n3_; have GE364 := n4_; have NB362_364 := n5_; have NB364_362 := n6_; clear n0_ n1_ n2_ n3_ n4_ n5_ n6_; clear hb hbox hg; have hnb37 := NB364_362.out; have hnc37 := NB362_364.out; have hcz38_0 : w36.cell? ⟨gb364, 0, none⟩ = some (.string (⟨#[]⟩ : ByteArray)) := (blk_cell BK364.out 0).trans rfl; have hcz38_1 : w36.cell? ⟨gb364, 1, none⟩ = some (.string (⟨#[]⟩ : ByteArray)) := (blk_cell BK364.out 1).trans rfl; have hcz38_2 : w36.cell? ⟨gb364, 2, none⟩ = some (.int .i64 0) := (blk_cell BK364.out 2).trans rfl; have hfz38_0 := blk_frozen BK364.out 0; have hfz38_1 := blk_frozen BK364.out 1; have hfz38_2 := blk_frozen BK364.out 2) | (go_at_call 14; (with_reducible refine (cressetref03_Key.calls ((rd_T74 l0_1 x3_2).f0) t365 _ A12.out).mono ?_); rintro e w' ⟨rfl, ⟨nd, rfl⟩⟩; (try first | exact ⟨rfl, _, World.drewN_drewN _ _ _⟩ | exact ⟨rfl, _, Eq.trans (World.drewN_drewN _ _ _) (congrArg (World.drewN _) (Nat.add_assoc _ _ _))⟩)) | (go_at_call 16; (with_reducible refine (cressetref03_Value.calls ((rd_T74 l0_1 x3_2).f1) t366 _ A14.out).mono ?_); rintro e w' ⟨rfl, ⟨nd, rfl⟩⟩; (try first | exact ⟨rfl, _, World.drewN_drewN _ _ _⟩ | exact ⟨rfl, _, Eq.trans (World.drewN_drewN _ _ _) (congrArg (World.drewN _) (Nat.add_assoc _ _ _))⟩)))
          repeat (go_quiet (first | ((with_reducible refine gate_dst (N := 4) rfl ?_); (try (refine gate_guard (by rfl) ?_; dsimp only)); refine box_event ?hg (N := 4) ?hd (cs := #[.string (⟨#[]⟩ : ByteArray), .string (⟨#[]⟩ : ByteArray), .int .i64 0]) (t := 74) ?hr ?_; (case hd => rfl); (case hg => rfl); (case hr => first | (go_simp; done) | (go_simp; rfl)); intro gb364 hg w36 hbox hb; have n0_ := Aside0.mk (blk_below (g := gb362) (o := .cells #[.int .i64 a0_0, .slice (some ad363) l0_1.length c0_1, .bool a0_2] 27 (0, 0)) (by (with_reducible repeat (first | refine blk_drewN ?_ _ | refine blk_drew ?_ | refine blk_alloc ?_ _)); exact BK362.out) hb); have n1_ := Aside0.mk (below_step (by repeat (first | (with_reducible first | exact HB.out | apply below_alloc | apply pw_below_drewN | apply below_drew1 | refine below_set ?_ GE362.out) | exact HB.out)) hb); have n2_ := Aside0.mk (hbox); have n3_ := Aside0.mk ((by rw [hg]; exact (below_size (by repeat (first | (with_reducible first | exact HB.out | apply below_alloc | apply pw_below_drewN | apply below_drew1 | refine below_set ?_ GE362.out) | exact HB.out))) : w.heap.size ≤ gb364)); have n4_ := Aside0.mk ((by rw [hg]; exact (below_size (by repeat (first | (with_reducible first | exact HB.out | apply below_alloc | apply pw_below_drewN | apply below_drew1 | refine below_set ?_ GE362.out) | exact HB.out))) : w.heap.size ≤ gb364)); have n5_ := Aside0.mk ((by rw [hg]; exact Nat.ne_of_lt (blk_lt (g := gb362) (o := .cells #[.int .i64 a0_0, .slice (some ad363) l0_1.length c0_1, .bool a0_2] 27 (0, 0)) (by (with_reducible repeat (first | refine blk_drewN ?_ _ | refine blk_drew ?_ | refine blk_alloc ?_ _)); exact BK362.out)) : gb362 ≠ gb364)); have n6_ := Aside0.mk ((by rw [hg]; exact Nat.ne_of_gt (blk_lt (g := gb362) (o := .cells #[.int .i64 a0_0, .slice (some ad363) l0_1.length c0_1, .bool a0_2] 27 (0, 0)) (by (with_reducible repeat (first | refine blk_drewN ?_ _ | refine blk_drew ?_ | refine blk_alloc ?_ _)); exact BK362.out)) : gb364 ≠ gb362)); clear BK362; clear HB; have BK362 := n0_; have HB := n1_; have BK364 := n2_; have GW364 := n3_; have GE364 := n4_; have NB362_364 := n5_; have NB364_362 := n6_; clear n0_ n1_ n2_ n3_ n4_ n5_ n6_; clear hb hbox hg; have hnb37 := NB364_362.out; have hnc37 := NB362_364.out; have hcz38_0 : w36.cell? ⟨gb364, 0, none⟩ = some (.string (⟨#[]⟩ : ByteArray)) := (blk_cell BK364.out 0).trans rfl; have hcz38_1 : w36.cell? ⟨gb364, 1, none⟩ = some (.string (⟨#[]⟩ : ByteArray)) := (blk_cell BK364.out 1).trans rfl; have hcz38_2 : w36.cell? ⟨gb364, 2, none⟩ = some (.int .i64 0) := (blk_cell BK364.out 2).trans rfl; have hfz38_0 := blk_frozen BK364.out 0; have hfz38_1 := blk_frozen BK364.out 1; have hfz38_2 := blk_frozen BK364.out 2) | (go_at_call 14; (with_reducible refine (cressetref03_Key.calls ((rd_T74 l0_1 x3_2).f0) t365 _ A12.out).mono ?_); rintro e w' ⟨rfl, ⟨nd, rfl⟩⟩; (try first | exact ⟨rfl, _, World.drewN_drewN _ _ _⟩ | exact ⟨rfl, _, Eq.trans (World.drewN_drewN _ _ _) (congrArg (World.drewN _) (Nat.add_assoc _ _ _))⟩)) | (go_at_call 16; (with_reducible refine (cressetref03_Value.calls ((rd_T74 l0_1 x3_2).f1) t366 _ A14.out).mono ?_); rintro e w' ⟨rfl, ⟨nd, rfl⟩⟩; (try first | exact ⟨rfl, _, World.drewN_drewN _ _ _⟩ | exact ⟨rfl, _, Eq.trans (World.drewN_drewN _ _ _) (congrArg (World.drewN _) (Nat.add_assoc _ _ _))⟩))); try go_wp2_with (first | ((with_reducible refine gate_dst (N := 4) rfl ?_); (try (refine gate_guard (by rfl) ?_; dsimp only)); refine box_event ?hg (N := 4) ?hd (cs := #[.string (⟨#[]⟩ : ByteArray), .string (⟨#[]⟩ : ByteArray), .int .i64 0]) (t := 74) ?hr ?_; (case hd => rfl); (case hg => rfl); (case hr => first | (go_simp; done) | (go_simp; rfl)); intro gb364 hg w36 hbox hb; have n0_ := Aside0.mk (blk_below (g := gb362) (o := .cells #[.int .i64 a0_0, .slice (some ad363) l0_1.length c0_1, .bool a0_2] 27 (0, 0)) (by (with_reducible repeat (first | refine blk_drewN ?_ _ | refine blk_drew ?_ | refine blk_alloc ?_ _)); exact BK362.out) hb); have n1_ := Aside0.mk (below_step (by repeat (first | (with_reducible first | exact HB.out | apply below_alloc | apply pw_below_drewN | apply below_drew1 | refine below_set ?_ GE362.out) | exact HB.out)) hb); have n2_ := Aside0.mk (hbox); have n3_ := Aside0.mk ((by rw [hg]; exact (below_size (by repeat (first | (with_reducible first | exact HB.out | apply below_alloc | apply pw_below_drewN | apply below_drew1 | refine below_set ?_ GE362.out) | exact HB.out))) : w.heap.size ≤ gb364)); have n4_ := Aside0.mk ((by rw [hg]; exact (below_size (by repeat (first | (with_reducible first | exact HB.out | apply below_alloc | apply pw_below_drewN | apply below_drew1 | refine below_set ?_ GE362.out) | exact HB.out))) : w.heap.size ≤ gb364)); have n5_ := Aside0.mk ((by rw [hg]; exact Nat.ne_of_lt (blk_lt (g := gb362) (o := .cells #[.int .i64 a0_0, .slice (some ad363) l0_1.length c0_1, .bool a0_2] 27 (0, 0)) (by (with_reducible repeat (first | refine blk_drewN ?_ _ | refine blk_drew ?_ | refine blk_alloc ?_ _)); exact BK362.out)) : gb362 ≠ gb364)); have n6_ := Aside0.mk ((by rw [hg]; exact Nat.ne_of_gt (blk_lt (g := gb362) (o := .cells #[.int .i64 a0_0, .slice (some ad363) l0_1.length c0_1, .bool a0_2] 27 (0, 0)) (by (with_reducible repeat (first | refine blk_drewN ?_ _ | refine blk_drew ?_ | refine blk_alloc ?_ _)); exact BK362.out)) : gb364 ≠ gb362)); clear BK362; clear HB; have BK362 := n0_; have HB := n1_; have BK364 := n2_; have GW364 := n3_; have GE364 := n4_; have NB362_364 := n5_; have NB364_362 := n6_; clear n0_ n1_ n2_ n3_ n4_ n5_ n6_; clear hb hbox hg; have hnb37 := NB364_362.out; have hnc37 := NB362_364.out; have hcz38_0 : w36.cell? ⟨gb364, 0, none⟩ = some (.string (⟨#[]⟩ : ByteArray)) := (blk_cell BK364.out 0).trans rfl; have hcz38_1 : w36.cell? ⟨gb364, 1, none⟩ = some (.string (⟨#[]⟩ : ByteArray)) := (blk_cell BK364.out 1).trans rfl; have hcz38_2 : w36.cell? ⟨gb364, 2, none⟩ = some (.int .i64 0) := (blk_cell BK364.out 2).trans rfl; have hfz38_0 := blk_frozen BK364.out 0; have hfz38_1 := blk_frozen BK364.out 1; have hfz38_2 := blk_frozen BK364.out 2) | (go_at_call 14; (with_reducible refine (cressetref03_Key.calls ((rd_T74 l0_1 x3_2).f0) t365 _ A12.out).mono ?_); rintro e w' ⟨rfl, ⟨nd, rfl⟩⟩; (try first | exact ⟨rfl, _, World.drewN_drewN _ _ _⟩ | exact ⟨rfl, _, Eq.trans (World.drewN_drewN _ _ _) (congrArg (World.drewN _) (Nat.add_assoc _ _ _))⟩)) | (go_at_call 16; (with_reducible refine (cressetref03_Value.calls ((rd_T74 l0_1 x3_2).f1) t366 _ A14.out).mono ?_); rintro e w' ⟨rfl, ⟨nd, rfl⟩⟩; (try first | exact ⟨rfl, _, World.drewN_drewN _ _ _⟩ | exact ⟨rfl, _, Eq.trans (World.drewN_drewN _ _ _) (congrArg (World.drewN _) (Nat.add_assoc _ _ _))⟩))))
          go_ret
          exact ⟨by first | rfl | (simp [errW_none, errW_some] <;> rfl) | (simp [*, errW_none, errW_some] <;> rfl), by repeat (first | (with_reducible first | exact HB.out | apply below_alloc | apply pw_below_drewN | apply below_drew1 | refine below_set ?_ GE362.out | refine below_set ?_ GE364.out) | exact HB.out)⟩
        ·
         rw [if_neg c13] at H
         have c13b0 : (t365 == 0) = false := beq_eq_false_iff_ne.mpr c13
         have c13b1 : (t365 != 0) = true := bne_iff_ne.mpr c13
         obtain rfl := Option.some.inj H
         have hcz39_0 : wr.cell? ⟨gb362, 0, none⟩ = some (.int .i64 a0_0) := (blk_cell BK362.out 0).trans rfl
         have hcz39_1 : wr.cell? ⟨gb362, 1, none⟩ = some (.slice A0_1 l0_1.length c0_1) := (blk_cell BK362.out 1).trans rfl
         have hcz39_2 : wr.cell? ⟨gb362, 2, none⟩ = some (.bool a0_2) := (blk_cell BK362.out 2).trans rfl
         have hfz39_0 := blk_frozen BK362.out 0
         have hfz39_1 := blk_frozen BK362.out 1
         have hfz39_2 := blk_frozen BK362.out 2
         have p363 : 0 ≤ (x3_2 : Int) := of_decide_eq_true (by first | (with_reducible assumption) | assumption)
         have q363 : x3_2 < (l0_1.length : Int) := of_decide_eq_true (by first | (with_reducible assumption) | assumption)
         obtain ⟨ad363, e363, hx363_0, hx363_1, hx363_2⟩ := at_T74 HR0_1.out x3_2 p363 q363
         cases e363
         replace hx363_0 := (HB.out.cell (World.block_lt_of_cell? w _ hx363_0)).trans hx363_0
         replace hx363_1 := (HB.out.cell (World.block_lt_of_cell? w _ hx363_1)).trans hx363_1
         replace hx363_2 := (HB.out.cell (World.block_lt_of_cell? w _ hx363_2)).trans hx363_2
         replace p363 := eq_true p363
         replace q363 := eq_true q363
         go_wp2_with (first | ((with_reducible refine gate_dst (N := 4) rfl ?_); (try (refine gate_guard (by rfl) ?_; dsimp only)); refine box_event ?hg (N := 4) ?hd (cs := #[.string (⟨#[]⟩ : ByteArray), .string (⟨#[]⟩ : ByteArray), .int .i64 0]) (t := 74) ?hr ?_; (case hd => rfl); (case hg => rfl); (case hr => first | (go_simp; done) | (go_simp; rfl)); intro gb364 hg w40 hbox hb; have n0_ := Aside0.mk (blk_below (g := gb362) (o := .cells #[.int .i64 a0_0, .slice (some ad363) l0_1.length c0_1, .bool a0_2] 27 (0, 0)) (by (with_reducible repeat (first | refine blk_drewN ?_ _ | refine blk_drew ?_ | refine blk_alloc ?_ _)); exact BK362.out) hb); have n1_ := Aside0.mk (below_step (by repeat (first | (with_reducible first | exact HB.out | apply below_alloc | apply pw_below_drewN | apply below_drew1 | refine below_set ?_ GE362.out) | exact HB.out)) hb); have n2_ := Aside0.mk (hbox); have n3_ := Aside0.mk ((by rw [hg]; exact (below_size (by repeat (first | (with_reducible first | exact HB.out | apply below_alloc | apply pw_below_drewN | apply below_drew1 | refine below_set ?_ GE362.out) | exact HB.out))) : w.heap.size ≤ gb364)); have n4_ := Aside0.mk ((by rw [hg]; exact (below_size (by repeat (first | (with_reducible first | exact HB.out | apply below_alloc | apply pw_below_drewN | apply below_drew1 | refine below_set ?_ GE362.out) | exact HB.out))) : w.heap.size ≤ gb364)); have n5_ := Aside0.mk ((by rw [hg]; exact Nat.ne_of_lt (blk_lt (g := gb362) (o := .cells #[.int .i64 a0_0, .slice (some ad363) l0_1.length c0_1, .bool a0_2] 27 (0, 0)) (by (with_reducible repeat (first | refine blk_drewN ?_ _ | refine blk_drew ?_ | refine blk_alloc ?_ _)); exact BK362.out)) : gb362 ≠ gb364)); have n6_ := Aside0.mk ((by rw [hg]; exact Nat.ne_of_gt (blk_lt (g := gb362) (o := .cells #[.int .i64 a0_0, .slice (some ad363) l0_1.length c0_1, .bool a0_2] 27 (0, 0)) (by (with_reducible repeat (first | refine blk_drewN ?_ _ | refine blk_drew ?_ | refine blk_alloc ?_ _)); exact BK362.out)) : gb364 ≠ gb362)); clear BK362; clear HB; have BK362 := n0_; have HB := n1_; have BK364 := n2_; have GW364 := n3_; have GE364 := n4_; have NB362_364 := n5_; have NB364_362 := n6_; clear n0_ n1_ n2_ n3_ n4_ n5_ n6_; clear hb hbox hg; have hnb41 := NB364_362.out; have hnc41 := NB362_364.out; have hcz42_0 : w40.cell? ⟨gb364, 0, none⟩ = some (.string (⟨#[]⟩ : ByteArray)) := (blk_cell BK364.out 0).trans rfl; have hcz42_1 : w40.cell? ⟨gb364, 1, none⟩ = some (.string (⟨#[]⟩ : ByteArray)) := (blk_cell BK364.out 1).trans rfl; have hcz42_2 : w40.cell? ⟨gb364, 2, none⟩ = some (.int .i64 0) := (blk_cell BK364.out 2).trans rfl; have hfz42_0 := blk_frozen BK364.out 0; have hfz42_1 := blk_frozen BK364.out 1; have hfz42_2 := blk_frozen BK364.out 2) | (go_at_call 14; (with_reducible refine (cressetref03_Key.calls ((rd_T74 l0_1 x3_2).f0) t365 _ A12.out).mono ?_); rintro e w' ⟨rfl, ⟨nd, rfl⟩⟩; (try first | exact ⟨rfl, _, World.drewN_drewN _ _ _⟩ | exact ⟨rfl, _, Eq.trans (World.drewN_drewN _ _ _) (congrArg (World.drewN _) (Nat.add_assoc _ _ _))⟩)))
         repeat (go_quiet (first | ((with_reducible refine gate_dst (N := 4) rfl ?_); (try (refine gate_guard (by rfl) ?_; dsimp only)); refine box_event ?hg (N := 4) ?hd (cs := #[.string (⟨#[]⟩ : ByteArray), .string (⟨#[]⟩ : ByteArray), .int .i64 0]) (t := 74) ?hr ?_; (case hd => rfl); (case hg => rfl); (case hr => first | (go_simp; done) | (go_simp; rfl)); intro gb364 hg w40 hbox hb; have n0_ := Aside0.mk (blk_below (g := gb362) (o := .cells #[.int .i64 a0_0, .slice (some ad363) l0_1.length c0_1, .bool a0_2] 27 (0, 0)) (by (with_reducible repeat (first | refine blk_drewN ?_ _ | refine blk_drew ?_ | refine blk_alloc ?_ _)); exact BK362.out) hb); have n1_ := Aside0.mk (below_step (by repeat (first | (with_reducible first | exact HB.out | apply below_alloc | apply pw_below_drewN | apply below_drew1 | refine below_set ?_ GE362.out) | exact HB.out)) hb); have n2_ := Aside0.mk (hbox); have n3_ := Aside0.mk ((by rw [hg]; exact (below_size (by repeat (first | (with_reducible first | exact HB.out | apply below_alloc | apply pw_below_drewN | apply below_drew1 | refine below_set ?_ GE362.out) | exact HB.out))) : w.heap.size ≤ gb364)); have n4_ := Aside0.mk ((by rw [hg]; exact (below_size (by repeat (first | (with_reducible first | exact HB.out | apply below_alloc | apply pw_below_drewN | apply below_drew1 | refine below_set ?_ GE362.out) | exact HB.out))) : w.heap.size ≤ gb364)); have n5_ := Aside0.mk ((by rw [hg]; exact Nat.ne_of_lt (blk_lt (g := gb362) (o := .cells #[.int .i64 a0_0, .slice (some ad363) l0_1.length c0_1, .bool a0_2] 27 (0, 0)) (by (with_reducible repeat (first | refine blk_drewN ?_ _ | refine blk_drew ?_ | refine blk_alloc ?_ _)); exact BK362.out)) : gb362 ≠ gb364)); have n6_ := Aside0.mk ((by rw [hg]; exact Nat.ne_of_gt (blk_lt (g := gb362) (o := .cells #[.int .i64 a0_0, .slice (some ad363) l0_1.length c0_1, .bool a0_2] 27 (0, 0)) (by (with_reducible repeat (first | refine blk_drewN ?_ _ | refine blk_drew ?_ | refine blk_alloc ?_ _)); exact BK362.out)) : gb364 ≠ gb362)); clear BK362; clear HB; have BK362 := n0_; have HB := n1_; have BK364 := n2_; have GW364 := n3_; have GE364 := n4_; have NB362_364 := n5_; have NB364_362 := n6_; clear n0_ n1_ n2_ n3_ n4_ n5_ n6_; clear hb hbox hg; have hnb41 := NB364_362.out; have hnc41 := NB362_364.out; have hcz42_0 : w40.cell? ⟨gb364, 0, none⟩ = some (.string (⟨#[]⟩ : ByteArray)) := (blk_cell BK364.out 0).trans rfl; have hcz42_1 : w40.cell? ⟨gb364, 1, none⟩ = some (.string (⟨#[]⟩ : ByteArray)) := (blk_cell BK364.out 1).trans rfl; have hcz42_2 : w40.cell? ⟨gb364, 2, none⟩ = some (.int .i64 0) := (blk_cell BK364.out 2).trans rfl; have hfz42_0 := blk_frozen BK364.out 0; have hfz42_1 := blk_frozen BK364.out 1; have hfz42_2 := blk_frozen BK364.out 2) | (go_at_call 14; (with_reducible refine (cressetref03_Key.calls ((rd_T74 l0_1 x3_2).f0) t365 _ A12.out).mono ?_); rintro e w' ⟨rfl, ⟨nd, rfl⟩⟩; (try first | exact ⟨rfl, _, World.drewN_drewN _ _ _⟩ | exact ⟨rfl, _, Eq.trans (World.drewN_drewN _ _ _) (congrArg (World.drewN _) (Nat.add_assoc _ _ _))⟩))); try go_wp2_with (first | ((with_reducible refine gate_dst (N := 4) rfl ?_); (try (refine gate_guard (by rfl) ?_; dsimp only)); refine box_event ?hg (N := 4) ?hd (cs := #[.string (⟨#[]⟩ : ByteArray), .string (⟨#[]⟩ : ByteArray), .int .i64 0]) (t := 74) ?hr ?_; (case hd => rfl); (case hg => rfl); (case hr => first | (go_simp; done) | (go_simp; rfl)); intro gb364 hg w40 hbox hb; have n0_ := Aside0.mk (blk_below (g := gb362) (o := .cells #[.int .i64 a0_0, .slice (some ad363) l0_1.length c0_1, .bool a0_2] 27 (0, 0)) (by (with_reducible repeat (first | refine blk_drewN ?_ _ | refine blk_drew ?_ | refine blk_alloc ?_ _)); exact BK362.out) hb); have n1_ := Aside0.mk (below_step (by repeat (first | (with_reducible first | exact HB.out | apply below_alloc | apply pw_below_drewN | apply below_drew1 | refine below_set ?_ GE362.out) | exact HB.out)) hb); have n2_ := Aside0.mk (hbox); have n3_ := Aside0.mk ((by rw [hg]; exact (below_size (by repeat (first | (with_reducible first | exact HB.out | apply below_alloc | apply pw_below_drewN | apply below_drew1 | refine below_set ?_ GE362.out) | exact HB.out))) : w.heap.size ≤ gb364)); have n4_ := Aside0.mk ((by rw [hg]; exact (below_size (by repeat (first | (with_reducible first | exact HB.out | apply below_alloc | apply pw_below_drewN | apply below_drew1 | refine below_set ?_ GE362.out) | exact HB.out))) : w.heap.size ≤ gb364)); have n5_ := Aside0.mk ((by rw [hg]; exact Nat.ne_of_lt (blk_lt (g := gb362) (o := .cells #[.int .i64 a0_0, .slice (some ad363) l0_1.length c0_1, .bool a0_2] 27 (0, 0)) (by (with_reducible repeat (first | refine blk_drewN ?_ _ | refine blk_drew ?_ | refine blk_alloc ?_ _)); exact BK362.out)) : gb362 ≠ gb364)); have n6_ := Aside0.mk ((by rw [hg]; exact Nat.ne_of_gt (blk_lt (g := gb362) (o := .cells #[.int .i64 a0_0, .slice (some ad363) l0_1.length c0_1, .bool a0_2] 27 (0, 0)) (by (with_reducible repeat (first | refine blk_drewN ?_ _ | refine blk_drew ?_ | refine blk_alloc ?_ _)); exact BK362.out)) : gb364 ≠ gb362)); clear BK362; clear HB; have BK362 := n0_; have HB := n1_; have BK364 := n2_; have GW364 := n3_; have GE364 := n4_; have NB362_364 := n5_; have NB364_362 := n6_; clear n0_ n1_ n2_ n3_ n4_ n5_ n6_; clear hb hbox hg; have hnb41 := NB364_362.out; have hnc41 := NB362_364.out; have hcz42_0 : w40.cell? ⟨gb364, 0, none⟩ = some (.string (⟨#[]⟩ : ByteArray)) := (blk_cell BK364.out 0).trans rfl; have hcz42_1 : w40.cell? ⟨gb364, 1, none⟩ = some (.string (⟨#[]⟩ : ByteArray)) := (blk_cell BK364.out 1).trans rfl; have hcz42_2 : w40.cell? ⟨gb364, 2, none⟩ = some (.int .i64 0) := (blk_cell BK364.out 2).trans rfl; have hfz42_0 := blk_frozen BK364.out 0; have hfz42_1 := blk_frozen BK364.out 1; have hfz42_2 := blk_frozen BK364.out 2) | (go_at_call 14; (with_reducible refine (cressetref03_Key.calls ((rd_T74 l0_1 x3_2).f0) t365 _ A12.out).mono ?_); rintro e w' ⟨rfl, ⟨nd, rfl⟩⟩; (try first | exact ⟨rfl, _, World.drewN_drewN _ _ _⟩ | exact ⟨rfl, _, Eq.trans (World.drewN_drewN _ _ _) (congrArg (World.drewN _) (Nat.add_assoc _ _ _))⟩))))
         go_ret
         exact ⟨by first | rfl | (simp [errW_none, errW_some] <;> rfl) | (simp [*, errW_none, errW_some] <;> rfl), by repeat (first | (with_reducible first | exact HB.out | apply below_alloc | apply pw_below_drewN | apply below_drew1 | refine below_set ?_ GE362.out | refine below_set ?_ GE364.out) | exact HB.out)⟩
       ·
        rw [if_neg c11] at H
        exact absurd H (by simp)
      ·
       rw [if_neg c10] at H
       have c10b0 : decide (x3_2 < (l0_1.length : Int)) = false := decide_eq_false c10
       clear c10
       obtain rfl := Option.some.inj H
       have hcz43_0 : wr.cell? ⟨gb362, 0, none⟩ = some (.int .i64 a0_0) := (blk_cell BK362.out 0).trans rfl
       have hcz43_1 : wr.cell? ⟨gb362, 1, none⟩ = some (.slice A0_1 l0_1.length c0_1) := (blk_cell BK362.out 1).trans rfl
       have hcz43_2 : wr.cell? ⟨gb362, 2, none⟩ = some (.bool a0_2) := (blk_cell BK362.out 2).trans rfl
       have hfz43_0 := blk_frozen BK362.out 0
       have hfz43_1 := blk_frozen BK362.out 1
       have hfz43_2 := blk_frozen BK362.out 2
       go_wp2
       repeat (go_quiet (fail); try go_wp2)
       go_ret
       exact ⟨by first | rfl | (simp [errW_none, errW_some] <;> rfl) | (simp [*, errW_none, errW_some] <;> rfl), by repeat (first | (with_reducible first | exact HB.out | apply below_alloc | apply pw_below_drewN | apply below_drew1 | refine below_set ?_ GE362.out) | exact HB.out)⟩

def cressetref03_nought.f (a0 : Int) : Option (Bool) := if a0 ≥ 0 then (some (decide (a0 ≤ 1099511627776))) else (some false)
set_option maxHeartbeats 8000000 in
set_option maxRecDepth 100000 in
theorem cressetref03_nought.calls (a0 : Int) (r : Bool) (w : World) (h : cressetref03_nought.f a0 = some r) :
    Calls Try.prog 50 #[.int .i64 a0] w fun e w' => e = .returned (.bool r) ∧ Drawn0 w w' := by
  have H : (if a0 ≥ 0 then (some (decide (a0 ≤ 1099511627776))) else (some false)) = some r := h
  clear h
  by_cases c2 : a0 ≥ 0
  · rw [if_pos c2] at H
    have c2b0 : decide (0 ≤ a0) = true := decide_eq_true c2
    clear c2
    obtain rfl := Option.some.inj H
    go_enter Try.func50, Try.ntmps50
    go_wp2
    go_ret
    exact ⟨by first | rfl | (simp; done) | (simp [*]; done), by repeat (first | exact Drawn0.refl _ | apply Drawn0.step)⟩
  · rw [if_neg c2] at H
    have c2b0 : decide (0 ≤ a0) = false := decide_eq_false c2
    clear c2
    obtain rfl := Option.some.inj H
    go_enter Try.func50, Try.ntmps50
    go_wp2
    go_ret
    exact ⟨by first | rfl | (simp; done) | (simp [*]; done), by repeat (first | exact Drawn0.refl _ | apply Drawn0.step)⟩

def cressetref03_CheckMaster.j0 : Nat → Bool → Int → Int → Int → Int → Int → Int → Int → Int → Option (Int)
  | 0, _, _, _, _, _, _, _, _, _ => none
  | k + 1, x32, x370000, x370001, x370002, x370003, x370004, x370005, x370006, x370007 => if x32 = true then (some 32) else ((cressetref03_nought.f x370004).bind fun t372 => (if t372 = true then ((cressetref03_nought.f x370006).bind fun t373 => (if t373 = true then ((cressetref03_nought.f x370007).bind fun t374 => (if t374 = true then (if x370005 < 0 then (some 32) else (if x370005 ≥ 512 then (some 32) else (some 0))) else (some 32))) else (some 32))) else (some 32)))
def cressetref03_CheckMaster.f (k : Nat) (a0_0 : Int) (a0_1 : Int) (a0_2 : Int) (a0_3 : Int) (a0_4 : Int) (a0_5 : Int) (a0_6 : Int) (a0_7 : Int) : Option (Int) := (cressetref03_ts.f a0_0).bind fun t370 => (if t370 = true then (if a0_1 < 0 then (cressetref03_CheckMaster.j0 k true a0_0 a0_1 a0_2 a0_3 a0_4 a0_5 a0_6 a0_7) else (if a0_1 > 1 then (cressetref03_CheckMaster.j0 k true a0_0 a0_1 a0_2 a0_3 a0_4 a0_5 a0_6 a0_7) else (if a0_2 < 1 then (cressetref03_CheckMaster.j0 k true a0_0 a0_1 a0_2 a0_3 a0_4 a0_5 a0_6 a0_7) else (if a0_2 > 4096 then (cressetref03_CheckMaster.j0 k true a0_0 a0_1 a0_2 a0_3 a0_4 a0_5 a0_6 a0_7) else ((cressetref03_nought.f a0_3).bind fun t371 => (cressetref03_CheckMaster.j0 k (!t371) a0_0 a0_1 a0_2 a0_3 a0_4 a0_5 a0_6 a0_7)))))) else (cressetref03_CheckMaster.j0 k true a0_0 a0_1 a0_2 a0_3 a0_4 a0_5 a0_6 a0_7))
set_option maxHeartbeats 8000000 in
set_option maxRecDepth 100000 in
theorem cressetref03_CheckMaster.calls (k : Nat) (a0_0 : Int) (a0_1 : Int) (a0_2 : Int) (a0_3 : Int) (a0_4 : Int) (a0_5 : Int) (a0_6 : Int) (a0_7 : Int) (r : Int) (w : World) (h : cressetref03_CheckMaster.f k a0_0 a0_1 a0_2 a0_3 a0_4 a0_5 a0_6 a0_7 = some r) :
    Calls Try.prog 23 #[.agg #[.int .i64 a0_0, .int .i64 a0_1, .int .i64 a0_2, .int .i64 a0_3, .int .i64 a0_4, .int .i64 a0_5, .int .i64 a0_6, .int .i64 a0_7]] w fun e w' => e = .returned (.int .i64 r) ∧ Below w.heap.size w w' := by
 have hu31 := Try.underlying31
 have HB := Aside0.mk (Below.refl w.heap.size w)
 have H : ((cressetref03_ts.f a0_0).bind fun t370 => (if t370 = true then (if a0_1 < 0 then (cressetref03_CheckMaster.j0 k true a0_0 a0_1 a0_2 a0_3 a0_4 a0_5 a0_6 a0_7) else (if a0_1 > 1 then (cressetref03_CheckMaster.j0 k true a0_0 a0_1 a0_2 a0_3 a0_4 a0_5 a0_6 a0_7) else (if a0_2 < 1 then (cressetref03_CheckMaster.j0 k true a0_0 a0_1 a0_2 a0_3 a0_4 a0_5 a0_6 a0_7) else (if a0_2 > 4096 then (cressetref03_CheckMaster.j0 k true a0_0 a0_1 a0_2 a0_3 a0_4 a0_5 a0_6 a0_7) else ((cressetref03_nought.f a0_3).bind fun t371 => (cressetref03_CheckMaster.j0 k (!t371) a0_0 a0_1 a0_2 a0_3 a0_4 a0_5 a0_6 a0_7)))))) else (cressetref03_CheckMaster.j0 k true a0_0 a0_1 a0_2 a0_3 a0_4 a0_5 a0_6 a0_7))) = some r := h
 clear h
 have HC2 := Aside0.mk H
 clear H
 go_enter Try.func23, Try.ntmps23
 go_upto_region 1 with (first | ((with_reducible refine gate_dst (N := 1) rfl ?_); refine box_event ?hg (N := 1) ?hd (cs := #[.int .i64 a0_0, .int .i64 a0_1, .int .i64 a0_2, .int .i64 a0_3, .int .i64 a0_4, .int .i64 a0_5, .int .i64 a0_6, .int .i64 a0_7]) (t := 31) ?hr ?_; (case hd => rfl); (case hg => rfl); (case hr => first | (go_simp; done) | (go_simp; rfl)); intro gb369 hg w3 hbox hb; have n0_ := Aside0.mk (below_step (by repeat (first | (with_reducible first | exact HB.out | apply below_alloc | apply pw_below_drewN | apply below_drew1) | exact HB.out)) hb); have n1_ := Aside0.mk (hbox); have n2_ := Aside0.mk ((by rw [hg]; exact (below_size (by repeat (first | (with_reducible first | exact HB.out | apply below_alloc | apply pw_below_drewN | apply below_drew1) | exact HB.out))) : w.heap.size ≤ gb369)); have n3_ := Aside0.mk ((by rw [hg]; exact (below_size (by repeat (first | (with_reducible first | exact HB.out | apply below_alloc | apply pw_below_drewN | apply below_drew1) | exact HB.out))) : w.heap.size ≤ gb369)); clear HB; have HB := n0_; have BK369 := n1_; have GW369 := n2_; have GE369 := n3_; clear n0_ n1_ n2_ n3_; clear hb hbox hg))
 (try simp only [Act.put, List.setIfInBounds_toArray, List.set_cons_zero, List.set_cons_succ])
 go_cut [32] (fun v32 wc => ∃ (kq : Nat) (x32_1 : Bool), v32 = .bool x32_1 ∧ Aside0 (cressetref03_CheckMaster.j0 kq x32_1 a0_0 a0_1 a0_2 a0_3 a0_4 a0_5 a0_6 a0_7 = some r) ∧ Aside0 (kq ≤ k) ∧ Aside0 (wc.heap[gb369]? = some (.cells #[.int .i64 a0_0, .int .i64 a0_1, .int .i64 a0_2, .int .i64 a0_3, .int .i64 a0_4, .int .i64 a0_5, .int .i64 a0_6, .int .i64 a0_7] 31 (0, 0))) ∧ Aside0 (Below w.heap.size w wc))
 case first =>
  have H := HC2.out
  clear HC2
  replace H := Option.bind_eq_some_iff.mp H
  obtain ⟨t370, A40, H⟩ := H
  replace H : (if t370 = true then (if a0_1 < 0 then (cressetref03_CheckMaster.j0 k true a0_0 a0_1 a0_2 a0_3 a0_4 a0_5 a0_6 a0_7) else (if a0_1 > 1 then (cressetref03_CheckMaster.j0 k true a0_0 a0_1 a0_2 a0_3 a0_4 a0_5 a0_6 a0_7) else (if a0_2 < 1 then (cressetref03_CheckMaster.j0 k true a0_0 a0_1 a0_2 a0_3 a0_4 a0_5 a0_6 a0_7) else (if a0_2 > 4096 then (cressetref03_CheckMaster.j0 k true a0_0 a0_1 a0_2 a0_3 a0_4 a0_5 a0_6 a0_7) else ((cressetref03_nought.f a0_3).bind fun t371 => (cressetref03_CheckMaster.j0 k (!t371) a0_0 a0_1 a0_2 a0_3 a0_4 a0_5 a0_6 a0_7)))))) else (cressetref03_CheckMaster.j0 k true a0_0 a0_1 a0_2 a0_3 a0_4 a0_5 a0_6 a0_7)) = some r := H
  have A4 := Aside0.mk A40
  clear A40
  by_cases c5 : t370 = true
  ·
   subst c5
   have H1 : (if a0_1 < 0 then (cressetref03_CheckMaster.j0 k true a0_0 a0_1 a0_2 a0_3 a0_4 a0_5 a0_6 a0_7) else (if a0_1 > 1 then (cressetref03_CheckMaster.j0 k true a0_0 a0_1 a0_2 a0_3 a0_4 a0_5 a0_6 a0_7) else (if a0_2 < 1 then (cressetref03_CheckMaster.j0 k true a0_0 a0_1 a0_2 a0_3 a0_4 a0_5 a0_6 a0_7) else (if a0_2 > 4096 then (cressetref03_CheckMaster.j0 k true a0_0 a0_1 a0_2 a0_3 a0_4 a0_5 a0_6 a0_7) else ((cressetref03_nought.f a0_3).bind fun t371 => (cressetref03_CheckMaster.j0 k (!t371) a0_0 a0_1 a0_2 a0_3 a0_4 a0_5 a0_6 a0_7)))))) = some r := by rw [if_pos rfl] at H; first | done | exact H
   clear H
   have H := H1
   clear H1
   by_cases c6 : a0_1 < 0
   ·
    rw [if_pos c6] at H
    have c6b0 : decide (a0_1 < 0) = true := decide_eq_true c6
    clear c6
    (first | rw [c6b0] | (simp only [i64_w, i32_w]; rw [c6b0]) | skip)
    have H' := Aside0.mk H
    clear H
    have hcz7_0 : w3.cell? ⟨gb369, 0, none⟩ = some (.int .i64 a0_0) := (blk_cell BK369.out 0).trans rfl
    have hcz7_1 : w3.cell? ⟨gb369, 1, none⟩ = some (.int .i64 a0_1) := (blk_cell BK369.out 1).trans rfl
    have hcz7_2 : w3.cell? ⟨gb369, 2, none⟩ = some (.int .i64 a0_2) := (blk_cell BK369.out 2).trans rfl
    have hcz7_3 : w3.cell? ⟨gb369, 3, none⟩ = some (.int .i64 a0_3) := (blk_cell BK369.out 3).trans rfl
    have hcz7_4 : w3.cell? ⟨gb369, 4, none⟩ = some (.int .i64 a0_4) := (blk_cell BK369.out 4).trans rfl
    have hcz7_5 : w3.cell? ⟨gb369, 5, none⟩ = some (.int .i64 a0_5) := (blk_cell BK369.out 5).trans rfl
    have hcz7_6 : w3.cell? ⟨gb369, 6, none⟩ = some (.int .i64 a0_6) := (blk_cell BK369.out 6).trans rfl
    have hcz7_7 : w3.cell? ⟨gb369, 7, none⟩ = some (.int .i64 a0_7) := (blk_cell BK369.out 7).trans rfl
    have hfz7_0 := blk_frozen BK369.out 0
    have hfz7_1 := blk_frozen BK369.out 1
    have hfz7_2 := blk_frozen BK369.out 2
    have hfz7_3 := blk_frozen BK369.out 3
    have hfz7_4 := blk_frozen BK369.out 4
    have hfz7_5 := blk_frozen BK369.out 5
    have hfz7_6 := blk_frozen BK369.out 6
    have hfz7_7 := blk_frozen BK369.out 7
    go_wp2_with (first | ((with_reducible refine gate_callee (f := 49) rfl ?_); refine goesL_ (some 5) rfl rfl Try.func49 (by kernel_rfl) rfl #[.int .i64 a0_0] rfl (by (try simp only [List.map_toArray, List.map_cons, List.map_nil]); first | done | rfl | (simp only [List.length_drop, List.length_take]; rfl)) ?_; (with_reducible refine (cressetref03_ts.calls a0_0 true _ A4.out).mono ?_); rintro e w' ⟨rfl, ⟨nd, rfl⟩⟩; refine ⟨_, rfl, ?_⟩))
    go_meet
    case rel => exact ⟨_, (true), (by first | rfl | (simp; done) | (simp [*]; done)), H', ⟨by first | omega | exact Nat.le_refl _⟩, ⟨by (with_reducible repeat (first | refine blk_drewN ?_ _ | refine blk_drew ?_ | refine blk_alloc ?_ _)); exact BK369.out⟩, ⟨by repeat (first | (with_reducible first | exact HB.out | apply below_alloc | apply pw_below_drewN | apply below_drew1 | refine below_set ?_ GE369.out) | exact HB.out)⟩⟩
   ·
    rw [if_neg c6] at H
    have c6b0 : decide (a0_1 < 0) = false := decide_eq_false c6
    clear c6
    (first | rw [c6b0] | (simp only [i64_w, i32_w]; rw [c6b0]) | skip)
    by_cases c8 : a0_1 > 1
    ·
     rw [if_pos c8] at H
     have c8b0 : decide (1 < a0_1) = true := decide_eq_true c8
     clear c8
     have H' := Aside0.mk H
     clear H
     have hcz9_0 : w3.cell? ⟨gb369, 0, none⟩ = some (.int .i64 a0_0) := (blk_cell BK369.out 0).trans rfl
     have hcz9_1 : w3.cell? ⟨gb369, 1, none⟩ = some (.int .i64 a0_1) := (blk_cell BK369.out 1).trans rfl
     have hcz9_2 : w3.cell? ⟨gb369, 2, none⟩ = some (.int .i64 a0_2) := (blk_cell BK369.out 2).trans rfl
     have hcz9_3 : w3.cell? ⟨gb369, 3, none⟩ = some (.int .i64 a0_3) := (blk_cell BK369.out 3).trans rfl
     have hcz9_4 : w3.cell? ⟨gb369, 4, none⟩ = some (.int .i64 a0_4) := (blk_cell BK369.out 4).trans rfl
     have hcz9_5 : w3.cell? ⟨gb369, 5, none⟩ = some (.int .i64 a0_5) := (blk_cell BK369.out 5).trans rfl
     have hcz9_6 : w3.cell? ⟨gb369, 6, none⟩ = some (.int .i64 a0_6) := (blk_cell BK369.out 6).trans rfl
     have hcz9_7 : w3.cell? ⟨gb369, 7, none⟩ = some (.int .i64 a0_7) := (blk_cell BK369.out 7).trans rfl
     have hfz9_0 := blk_frozen BK369.out 0
     have hfz9_1 := blk_frozen BK369.out 1
     have hfz9_2 := blk_frozen BK369.out 2
     have hfz9_3 := blk_frozen BK369.out 3
     have hfz9_4 := blk_frozen BK369.out 4
     have hfz9_5 := blk_frozen BK369.out 5
     have hfz9_6 := blk_frozen BK369.out 6
     have hfz9_7 := blk_frozen BK369.out 7
     go_wp2_with (first | ((with_reducible refine gate_callee (f := 49) rfl ?_); refine goesL_ (some 5) rfl rfl Try.func49 (by kernel_rfl) rfl #[.int .i64 a0_0] rfl (by (try simp only [List.map_toArray, List.map_cons, List.map_nil]); first | done | rfl | (simp only [List.length_drop, List.length_take]; rfl)) ?_; (with_reducible refine (cressetref03_ts.calls a0_0 true _ A4.out).mono ?_); rintro e w' ⟨rfl, ⟨nd, rfl⟩⟩; refine ⟨_, rfl, ?_⟩))
     go_meet
     case rel => exact ⟨_, (true), (by first | rfl | (simp; done) | (simp [*]; done)), H', ⟨by first | omega | exact Nat.le_refl _⟩, ⟨by (with_reducible repeat (first | refine blk_drewN ?_ _ | refine blk_drew ?_ | refine blk_alloc ?_ _)); exact BK369.out⟩, ⟨by repeat (first | (with_reducible first | exact HB.out | apply below_alloc | apply pw_below_drewN | apply below_drew1 | refine below_set ?_ GE369.out) | exact HB.out)⟩⟩
    ·
     rw [if_neg c8] at H
     have c8b0 : decide (1 < a0_1) = false := decide_eq_false c8
     clear c8
     by_cases c10 : a0_2 < 1
     ·
      rw [if_pos c10] at H
      have c10b0 : decide (a0_2 < 1) = true := decide_eq_true c10
      clear c10
      have H' := Aside0.mk H
      clear H
      have hcz11_0 : w3.cell? ⟨gb369, 0, none⟩ = some (.int .i64 a0_0) := (blk_cell BK369.out 0).trans rfl
      have hcz11_1 : w3.cell? ⟨gb369, 1, none⟩ = some (.int .i64 a0_1) := (blk_cell BK369.out 1).trans rfl
      have hcz11_2 : w3.cell? ⟨gb369, 2, none⟩ = some (.int .i64 a0_2) := (blk_cell BK369.out 2).trans rfl
      have hcz11_3 : w3.cell? ⟨gb369, 3, none⟩ = some (.int .i64 a0_3) := (blk_cell BK369.out 3).trans rfl
      have hcz11_4 : w3.cell? ⟨gb369, 4, none⟩ = some (.int .i64 a0_4) := (blk_cell BK369.out 4).trans rfl
      have hcz11_5 : w3.cell? ⟨gb369, 5, none⟩ = some (.int .i64 a0_5) := (blk_cell BK369.out 5).trans rfl
      have hcz11_6 : w3.cell? ⟨gb369, 6, none⟩ = some (.int .i64 a0_6) := (blk_cell BK369.out 6).trans rfl
      have hcz11_7 : w3.cell? ⟨gb369, 7, none⟩ = some (.int .i64 a0_7) := (blk_cell BK369.out 7).trans rfl
      have hfz11_0 := blk_frozen BK369.out 0
      have hfz11_1 := blk_frozen BK369.out 1
      have hfz11_2 := blk_frozen BK369.out 2
      have hfz11_3 := blk_frozen BK369.out 3
      have hfz11_4 := blk_frozen BK369.out 4
      have hfz11_5 := blk_frozen BK369.out 5
      have hfz11_6 := blk_frozen BK369.out 6
      have hfz11_7 := blk_frozen BK369.out 7
      go_wp2_with (first | ((with_reducible refine gate_callee (f := 49) rfl ?_); refine goesL_ (some 5) rfl rfl Try.func49 (by kernel_rfl) rfl #[.int .i64 a0_0] rfl (by (try simp only [List.map_toArray, List.map_cons, List.map_nil]); first | done | rfl | (simp only [List.length_drop, List.length_take]; rfl)) ?_; (with_reducible refine (cressetref03_ts.calls a0_0 true _ A4.out).mono ?_); rintro e w' ⟨rfl, ⟨nd, rfl⟩⟩; refine ⟨_, rfl, ?_⟩))
      go_meet
      case rel => exact ⟨_, (true), (by first | rfl | (simp; done) | (simp [*]; done)), H', ⟨by first | omega | exact Nat.le_refl _⟩, ⟨by (with_reducible repeat (first | refine blk_drewN ?_ _ | refine blk_drew ?_ | refine blk_alloc ?_ _)); exact BK369.out⟩, ⟨by repeat (first | (with_reducible first | exact HB.out | apply below_alloc | apply pw_below_drewN | apply below_drew1 | refine below_set ?_ GE369.out) | exact HB.out)⟩⟩
     ·
      rw [if_neg c10] at H
      have c10b0 : decide (a0_2 < 1) = false := decide_eq_false c10
      clear c10
      by_cases c12 : a0_2 > 4096
      ·
       rw [if_pos c12] at H
       have c12b0 : decide (4096 < a0_2) = true := decide_eq_true c12
       clear c12
       have H' := Aside0.mk H
       clear H
       have hcz13_0 : w3.cell? ⟨gb369, 0, none⟩ = some (.int .i64 a0_0) := (blk_cell BK369.out 0).trans rfl
       have hcz13_1 : w3.cell? ⟨gb369, 1, none⟩ = some (.int .i64 a0_1) := (blk_cell BK369.out 1).trans rfl
       have hcz13_2 : w3.cell? ⟨gb369, 2, none⟩ = some (.int .i64 a0_2) := (blk_cell BK369.out 2).trans rfl
       have hcz13_3 : w3.cell? ⟨gb369, 3, none⟩ = some (.int .i64 a0_3) := (blk_cell BK369.out 3).trans rfl
       have hcz13_4 : w3.cell? ⟨gb369, 4, none⟩ = some (.int .i64 a0_4) := (blk_cell BK369.out 4).trans rfl
       have hcz13_5 : w3.cell? ⟨gb369, 5, none⟩ = some (.int .i64 a0_5) := (blk_cell BK369.out 5).trans rfl
       have hcz13_6 : w3.cell? ⟨gb369, 6, none⟩ = some (.int .i64 a0_6) := (blk_cell BK369.out 6).trans rfl
       have hcz13_7 : w3.cell? ⟨gb369, 7, none⟩ = some (.int .i64 a0_7) := (blk_cell BK369.out 7).trans rfl
       have hfz13_0 := blk_frozen BK369.out 0
       have hfz13_1 := blk_frozen BK369.out 1
       have hfz13_2 := blk_frozen BK369.out 2
       have hfz13_3 := blk_frozen BK369.out 3
       have hfz13_4 := blk_frozen BK369.out 4
       have hfz13_5 := blk_frozen BK369.out 5
       have hfz13_6 := blk_frozen BK369.out 6
       have hfz13_7 := blk_frozen BK369.out 7
       go_wp2_with (first | ((with_reducible refine gate_callee (f := 49) rfl ?_); refine goesL_ (some 5) rfl rfl Try.func49 (by kernel_rfl) rfl #[.int .i64 a0_0] rfl (by (try simp only [List.map_toArray, List.map_cons, List.map_nil]); first | done | rfl | (simp only [List.length_drop, List.length_take]; rfl)) ?_; (with_reducible refine (cressetref03_ts.calls a0_0 true _ A4.out).mono ?_); rintro e w' ⟨rfl, ⟨nd, rfl⟩⟩; refine ⟨_, rfl, ?_⟩))
       go_meet
       case rel => exact ⟨_, (true), (by first | rfl | (simp; done) | (simp [*]; done)), H', ⟨by first | omega | exact Nat.le_refl _⟩, ⟨by (with_reducible repeat (first | refine blk_drewN ?_ _ | refine blk_drew ?_ | refine blk_alloc ?_ _)); exact BK369.out⟩, ⟨by repeat (first | (with_reducible first | exact HB.out | apply below_alloc | apply pw_below_drewN | apply below_drew1 | refine below_set ?_ GE369.out) | exact HB.out)⟩⟩
      ·
       rw [if_neg c12] at H
       have c12b0 : decide (4096 < a0_2) = false := decide_eq_false c12
       clear c12
       replace H := Option.bind_eq_some_iff.mp H
       obtain ⟨t371, A140, H⟩ := H
       replace H : (cressetref03_CheckMaster.j0 k (!t371) a0_0 a0_1 a0_2 a0_3 a0_4 a0_5 a0_6 a0_7) = some r := H
       have A14 := Aside0.mk A140
       clear A140
       have H' := Aside0.mk H
       clear H
       have hcz15_0 : w3.cell? ⟨gb369, 0, none⟩ = some (.int .i64 a0_0) := (blk_cell BK369.out 0).trans rfl
       have hcz15_1 : w3.cell? ⟨gb369, 1, none⟩ = some (.int .i64 a0_1) := (blk_cell BK369.out 1).trans rfl
       have hcz15_2 : w3.cell? ⟨gb369, 2, none⟩ = some (.int .i64 a0_2) := (blk_cell BK369.out 2).trans rfl
       have hcz15_3 : w3.cell? ⟨gb369, 3, none⟩ = some (.int .i64 a0_3) := (blk_cell BK369.out 3).trans rfl
       have hcz15_4 : w3.cell? ⟨gb369, 4, none⟩ = some (.int .i64 a0_4) := (blk_cell BK369.out 4).trans rfl
       have hcz15_5 : w3.cell? ⟨gb369, 5, none⟩ = some (.int .i64 a0_5) := (blk_cell BK369.out 5).trans rfl
       have hcz15_6 : w3.cell? ⟨gb369, 6, none⟩ = some (.int .i64 a0_6) := (blk_cell BK369.out 6).trans rfl
       have hcz15_7 : w3.cell? ⟨gb369, 7, none⟩ = some (.int .i64 a0_7) := (blk_cell BK369.out 7).trans rfl
       have hfz15_0 := blk_frozen BK369.out 0
       have hfz15_1 := blk_frozen BK369.out 1
       have hfz15_2 := blk_frozen BK369.out 2
       have hfz15_3 := blk_frozen BK369.out 3
       have hfz15_4 := blk_frozen BK369.out 4
       have hfz15_5 := blk_frozen BK369.out 5
       have hfz15_6 := blk_frozen BK369.out 6
       have hfz15_7 := blk_frozen BK369.out 7
       go_wp2_with (first | ((with_reducible refine gate_callee (f := 49) rfl ?_); refine goesL_ (some 5) rfl rfl Try.func49 (by kernel_rfl) rfl #[.int .i64 a0_0] rfl (by (try simp only [List.map_toArray, List.map_cons, List.map_nil]); first | done | rfl | (simp only [List.length_drop, List.length_take]; rfl)) ?_; (with_reducible refine (cressetref03_ts.calls a0_0 true _ A4.out).mono ?_); rintro e w' ⟨rfl, ⟨nd, rfl⟩⟩; refine ⟨_, rfl, ?_⟩) | (go_at_call 50; (with_reducible refine (cressetref03_nought.calls a0_3 t371 _ A14.out).mono ?_); rintro e w' ⟨rfl, ⟨nd, rfl⟩⟩))
       go_meet
       case rel => exact ⟨_, (!t371), (by first | rfl | (simp; done) | (simp [*]; done)), H', ⟨by first | omega | exact Nat.le_refl _⟩, ⟨by (with_reducible repeat (first | refine blk_drewN ?_ _ | refine blk_drew ?_ | refine blk_alloc ?_ _)); exact BK369.out⟩, ⟨by repeat (first | (with_reducible first | exact HB.out | apply below_alloc | apply pw_below_drewN | apply below_drew1 | refine below_set ?_ GE369.out) | exact HB.out)⟩⟩
  ·
   replace c5 := Bool.eq_false_iff.mpr c5
   subst c5
   have H1 : (cressetref03_CheckMaster.j0 k true a0_0 a0_1 a0_2 a0_3 a0_4 a0_5 a0_6 a0_7) = some r := by rw [if_neg (show ¬ (false = true) by decide)] at H; first | done | exact H
   clear H
   have H := H1
   clear H1
   have H' := Aside0.mk H
   clear H
   have hcz16_0 : w3.cell? ⟨gb369, 0, none⟩ = some (.int .i64 a0_0) := (blk_cell BK369.out 0).trans rfl
   have hcz16_1 : w3.cell? ⟨gb369, 1, none⟩ = some (.int .i64 a0_1) := (blk_cell BK369.out 1).trans rfl
   have hcz16_2 : w3.cell? ⟨gb369, 2, none⟩ = some (.int .i64 a0_2) := (blk_cell BK369.out 2).trans rfl
   have hcz16_3 : w3.cell? ⟨gb369, 3, none⟩ = some (.int .i64 a0_3) := (blk_cell BK369.out 3).trans rfl
   have hcz16_4 : w3.cell? ⟨gb369, 4, none⟩ = some (.int .i64 a0_4) := (blk_cell BK369.out 4).trans rfl
   have hcz16_5 : w3.cell? ⟨gb369, 5, none⟩ = some (.int .i64 a0_5) := (blk_cell BK369.out 5).trans rfl
   have hcz16_6 : w3.cell? ⟨gb369, 6, none⟩ = some (.int .i64 a0_6) := (blk_cell BK369.out 6).trans rfl
   have hcz16_7 : w3.cell? ⟨gb369, 7, none⟩ = some (.int .i64 a0_7) := (blk_cell BK369.out 7).trans rfl
   have hfz16_0 := blk_frozen BK369.out 0
   have hfz16_1 := blk_frozen BK369.out 1
   have hfz16_2 := blk_frozen BK369.out 2
   have hfz16_3 := blk_frozen BK369.out 3
   have hfz16_4 := blk_frozen BK369.out 4
   have hfz16_5 := blk_frozen BK369.out 5
   have hfz16_6 := blk_frozen BK369.out 6
   have hfz16_7 := blk_frozen BK369.out 7
   go_wp2_with (first | ((with_reducible refine gate_callee (f := 49) rfl ?_); refine goesL_ (some 5) rfl rfl Try.func49 (by kernel_rfl) rfl #[.int .i64 a0_0] rfl (by (try simp only [List.map_toArray, List.map_cons, List.map_nil]); first | done | rfl | (simp only [List.length_drop, List.length_take]; rfl)) ?_; (with_reducible refine (cressetref03_ts.calls a0_0 false _ A4.out).mono ?_); rintro e w' ⟨rfl, ⟨nd, rfl⟩⟩; refine ⟨_, rfl, ?_⟩))
   go_meet
   case rel => exact ⟨_, (true), (by first | rfl | (simp; done) | (simp [*]; done)), H', ⟨by first | omega | exact Nat.le_refl _⟩, ⟨by (with_reducible repeat (first | refine blk_drewN ?_ _ | refine blk_drew ?_ | refine blk_alloc ?_ _)); exact BK369.out⟩, ⟨by repeat (first | (with_reducible first | exact HB.out | apply below_alloc | apply pw_below_drewN | apply below_drew1 | refine below_set ?_ GE369.out) | exact HB.out)⟩⟩
 case rest =>
  clear HC2
  try clear c1
  try clear c2
  try clear p2
  try clear c4
  try clear c5
  try clear c6
  try clear c6b0
  try clear c8
  try clear c8b0
  try clear c10
  try clear c10b0
  try clear c12
  try clear c12b0
  try clear hcz11_0
  try clear hcz11_1
  try clear hcz11_2
  try clear hcz11_3
  try clear hcz11_4
  try clear hcz11_5
  try clear hcz11_6
  try clear hcz11_7
  try clear hcz13_0
  try clear hcz13_1
  try clear hcz13_2
  try clear hcz13_3
  try clear hcz13_4
  try clear hcz13_5
  try clear hcz13_6
  try clear hcz13_7
  try clear hcz15_0
  try clear hcz15_1
  try clear hcz15_2
  try clear hcz15_3
  try clear hcz15_4
  try clear hcz15_5
  try clear hcz15_6
  try clear hcz15_7
  try clear hcz16_0
  try clear hcz16_1
  try clear hcz16_2
  try clear hcz16_3
  try clear hcz16_4
  try clear hcz16_5
  try clear hcz16_6
  try clear hcz16_7
  try clear hcz7_0
  try clear hcz7_1
  try clear hcz7_2
  try clear hcz7_3
  try clear hcz7_4
  try clear hcz7_5
  try clear hcz7_6
  try clear hcz7_7
  try clear hcz9_0
  try clear hcz9_1
  try clear hcz9_2
  try clear hcz9_3
  try clear hcz9_4
  try clear hcz9_5
  try clear hcz9_6
  try clear hcz9_7
  try clear hfz11_0
  try clear hfz11_1
  try clear hfz11_2
  try clear hfz11_3
  try clear hfz11_4
  try clear hfz11_5
  try clear hfz11_6
  try clear hfz11_7
  try clear hfz13_0
  try clear hfz13_1
  try clear hfz13_2
  try clear hfz13_3
  try clear hfz13_4
  try clear hfz13_5
  try clear hfz13_6
  try clear hfz13_7
  try clear hfz15_0
  try clear hfz15_1
  try clear hfz15_2
  try clear hfz15_3
  try clear hfz15_4
  try clear hfz15_5
  try clear hfz15_6
  try clear hfz15_7
  try clear hfz16_0
  try clear hfz16_1
  try clear hfz16_2
  try clear hfz16_3
  try clear hfz16_4
  try clear hfz16_5
  try clear hfz16_6
  try clear hfz16_7
  try clear hfz7_0
  try clear hfz7_1
  try clear hfz7_2
  try clear hfz7_3
  try clear hfz7_4
  try clear hfz7_5
  try clear hfz7_6
  try clear hfz7_7
  try clear hfz9_0
  try clear hfz9_1
  try clear hfz9_2
  try clear hfz9_3
  try clear hfz9_4
  try clear hfz9_5
  try clear hfz9_6
  try clear hfz9_7
  obtain ⟨kq, x32_1, rfl, HA, HJ1, BK369, HB⟩ := hcut
  cases kq with
  | zero => exact absurd HA.out (by simp [cressetref03_CheckMaster.j0])
  | succ kj1 =>
   have H := HA.out
   clear HA
   simp only [cressetref03_CheckMaster.j0] at H
   by_cases c17 : x32_1 = true
   ·
    subst c17
    have H1 : (some 32) = some r := by rw [if_pos rfl] at H; first | done | exact H
    clear H
    have H := H1
    clear H1
    obtain rfl := Option.some.inj H
    go_wp2
    go_ret
    exact ⟨by first | rfl | (simp [errW_none, errW_some] <;> rfl) | (simp [*, errW_none, errW_some] <;> rfl), by repeat (first | (with_reducible first | exact HB.out | apply below_alloc | apply pw_below_drewN | apply below_drew1 | refine below_set ?_ GE369.out) | exact HB.out)⟩
   ·
    replace c17 := Bool.eq_false_iff.mpr c17
    subst c17
    have H1 : ((cressetref03_nought.f a0_4).bind fun t372 => (if t372 = true then ((cressetref03_nought.f a0_6).bind fun t373 => (if t373 = true then ((cressetref03_nought.f a0_7).bind fun t374 => (if t374 = true then (if a0_5 < 0 then (some 32) else (if a0_5 ≥ 512 then (some 32) else (some 0))) else (some 32))) else (some 32))) else (some 32))) = some r := by rw [if_neg (show ¬ (false = true) by decide)] at H; first | done | exact H
    clear H
    have H := H1
    clear H1
    replace H := Option.bind_eq_some_iff.mp H
    obtain ⟨t372, A180, H⟩ := H
    replace H : (if t372 = true then ((cressetref03_nought.f a0_6).bind fun t373 => (if t373 = true then ((cressetref03_nought.f a0_7).bind fun t374 => (if t374 = true then (if a0_5 < 0 then (some 32) else (if a0_5 ≥ 512 then (some 32) else (some 0))) else (some 32))) else (some 32))) else (some 32)) = some r := H
    have A18 := Aside0.mk A180
    clear A180
    by_cases c19 : t372 = true
    ·
     subst c19
     have H1 : ((cressetref03_nought.f a0_6).bind fun t373 => (if t373 = true then ((cressetref03_nought.f a0_7).bind fun t374 => (if t374 = true then (if a0_5 < 0 then (some 32) else (if a0_5 ≥ 512 then (some 32) else (some 0))) else (some 32))) else (some 32))) = some r := by rw [if_pos rfl] at H; first | done | exact H
     clear H
     have H := H1
     clear H1
     replace H := Option.bind_eq_some_iff.mp H
     obtain ⟨t373, A200, H⟩ := H
     replace H : (if t373 = true then ((cressetref03_nought.f a0_7).bind fun t374 => (if t374 = true then (if a0_5 < 0 then (some 32) else (if a0_5 ≥ 512 then (some 32) else (some 0))) else (some 32))) else (some 32)) = some r := H
     have A20 := Aside0.mk A200
     clear A200
     by_cases c21 : t373 = true
     ·
      subst c21
      have H1 : ((cressetref03_nought.f a0_7).bind fun t374 => (if t374 = true then (if a0_5 < 0 then (some 32) else (if a0_5 ≥ 512 then (some 32) else (some 0))) else (some 32))) = some r := by rw [if_pos rfl] at H; first | done | exact H
      clear H
      have H := H1
      clear H1
      replace H := Option.bind_eq_some_iff.mp H
      obtain ⟨t374, A220, H⟩ := H
      replace H : (if t374 = true then (if a0_5 < 0 then (some 32) else (if a0_5 ≥ 512 then (some 32) else (some 0))) else (some 32)) = some r := H
      have A22 := Aside0.mk A220
      clear A220
      by_cases c23 : t374 = true
      ·
       subst c23
       have H1 : (if a0_5 < 0 then (some 32) else (if a0_5 ≥ 512 then (some 32) else (some 0))) = some r := by rw [if_pos rfl] at H; first | done | exact H
       clear H
       have H := H1
       clear H1
       by_cases c24 : a0_5 < 0
       ·
        rw [if_pos c24] at H
        have c24b0 : decide (a0_5 < 0) = true := decide_eq_true c24
        clear c24
        obtain rfl := Option.some.inj H
        have hcz25_0 : wc.cell? ⟨gb369, 0, none⟩ = some (.int .i64 a0_0) := (blk_cell BK369.out 0).trans rfl
        have hcz25_1 : wc.cell? ⟨gb369, 1, none⟩ = some (.int .i64 a0_1) := (blk_cell BK369.out 1).trans rfl
        have hcz25_2 : wc.cell? ⟨gb369, 2, none⟩ = some (.int .i64 a0_2) := (blk_cell BK369.out 2).trans rfl
        have hcz25_3 : wc.cell? ⟨gb369, 3, none⟩ = some (.int .i64 a0_3) := (blk_cell BK369.out 3).trans rfl
        have hcz25_4 : wc.cell? ⟨gb369, 4, none⟩ = some (.int .i64 a0_4) := (blk_cell BK369.out 4).trans rfl
        have hcz25_5 : wc.cell? ⟨gb369, 5, none⟩ = some (.int .i64 a0_5) := (blk_cell BK369.out 5).trans rfl
        have hcz25_6 : wc.cell? ⟨gb369, 6, none⟩ = some (.int .i64 a0_6) := (blk_cell BK369.out 6).trans rfl
        have hcz25_7 : wc.cell? ⟨gb369, 7, none⟩ = some (.int .i64 a0_7) := (blk_cell BK369.out 7).trans rfl
        have hfz25_0 := blk_frozen BK369.out 0
        have hfz25_1 := blk_frozen BK369.out 1
        have hfz25_2 := blk_frozen BK369.out 2
        have hfz25_3 := blk_frozen BK369.out 3
        have hfz25_4 := blk_frozen BK369.out 4
        have hfz25_5 := blk_frozen BK369.out 5
        have hfz25_6 := blk_frozen BK369.out 6
        have hfz25_7 := blk_frozen BK369.out 7
        go_wp2_with (first | ((with_reducible refine gate_callee (f := 50) rfl ?_); refine goesL_ (some 36) rfl rfl Try.func50 (by kernel_rfl) rfl #[.int .i64 a0_4] rfl (by (try simp only [List.map_toArray, List.map_cons, List.map_nil]); first | done | rfl | (simp only [List.length_drop, List.length_take]; rfl)) ?_; (with_reducible refine (cressetref03_nought.calls a0_4 true _ A18.out).mono ?_); rintro e w' ⟨rfl, ⟨nd, rfl⟩⟩; refine ⟨_, rfl, ?_⟩) | (go_at_call 50; (with_reducible refine (cressetref03_nought.calls a0_6 true _ A20.out).mono ?_); rintro e w' ⟨rfl, ⟨nd, rfl⟩⟩) | (go_at_call 50; (with_reducible refine (cressetref03_nought.calls a0_7 true _ A22.out).mono ?_); rintro e w' ⟨rfl, ⟨nd, rfl⟩⟩))
        go_ret
        exact ⟨by first | rfl | (simp [errW_none, errW_some] <;> rfl) | (simp [*, errW_none, errW_some] <;> rfl), by repeat (first | (with_reducible first | exact HB.out | apply below_alloc | apply pw_below_drewN | apply below_drew1 | refine below_set ?_ GE369.out) | exact HB.out)⟩
       ·
        rw [if_neg c24] at H
        have c24b0 : decide (a0_5 < 0) = false := decide_eq_false c24
        clear c24
        by_cases c26 : a0_5 ≥ 512
        ·
         rw [if_pos c26] at H
         have c26b0 : decide (512 ≤ a0_5) = true := decide_eq_true c26
         clear c26
         obtain rfl := Option.some.inj H
         have hcz27_0 : wc.cell? ⟨gb369, 0, none⟩ = some (.int .i64 a0_0) := (blk_cell BK369.out 0).trans rfl
         have hcz27_1 : wc.cell? ⟨gb369, 1, none⟩ = some (.int .i64 a0_1) := (blk_cell BK369.out 1).trans rfl
         have hcz27_2 : wc.cell? ⟨gb369, 2, none⟩ = some (.int .i64 a0_2) := (blk_cell BK369.out 2).trans rfl
         have hcz27_3 : wc.cell? ⟨gb369, 3, none⟩ = some (.int .i64 a0_3) := (blk_cell BK369.out 3).trans rfl
         have hcz27_4 : wc.cell? ⟨gb369, 4, none⟩ = some (.int .i64 a0_4) := (blk_cell BK369.out 4).trans rfl
         have hcz27_5 : wc.cell? ⟨gb369, 5, none⟩ = some (.int .i64 a0_5) := (blk_cell BK369.out 5).trans rfl
         have hcz27_6 : wc.cell? ⟨gb369, 6, none⟩ = some (.int .i64 a0_6) := (blk_cell BK369.out 6).trans rfl
         have hcz27_7 : wc.cell? ⟨gb369, 7, none⟩ = some (.int .i64 a0_7) := (blk_cell BK369.out 7).trans rfl
         have hfz27_0 := blk_frozen BK369.out 0
         have hfz27_1 := blk_frozen BK369.out 1
         have hfz27_2 := blk_frozen BK369.out 2
         have hfz27_3 := blk_frozen BK369.out 3
         have hfz27_4 := blk_frozen BK369.out 4
         have hfz27_5 := blk_frozen BK369.out 5
         have hfz27_6 := blk_frozen BK369.out 6
         have hfz27_7 := blk_frozen BK369.out 7
         go_wp2_with (first | ((with_reducible refine gate_callee (f := 50) rfl ?_); refine goesL_ (some 36) rfl rfl Try.func50 (by kernel_rfl) rfl #[.int .i64 a0_4] rfl (by (try simp only [List.map_toArray, List.map_cons, List.map_nil]); first | done | rfl | (simp only [List.length_drop, List.length_take]; rfl)) ?_; (with_reducible refine (cressetref03_nought.calls a0_4 true _ A18.out).mono ?_); rintro e w' ⟨rfl, ⟨nd, rfl⟩⟩; refine ⟨_, rfl, ?_⟩) | (go_at_call 50; (with_reducible refine (cressetref03_nought.calls a0_6 true _ A20.out).mono ?_); rintro e w' ⟨rfl, ⟨nd, rfl⟩⟩) | (go_at_call 50; (with_reducible refine (cressetref03_nought.calls a0_7 true _ A22.out).mono ?_); rintro e w' ⟨rfl, ⟨nd, rfl⟩⟩))
         go_ret
         exact ⟨by first | rfl | (simp [errW_none, errW_some] <;> rfl) | (simp [*, errW_none, errW_some] <;> rfl), by repeat (first | (with_reducible first | exact HB.out | apply below_alloc | apply pw_below_drewN | apply below_drew1 | refine below_set ?_ GE369.out) | exact HB.out)⟩
        ·
         rw [if_neg c26] at H
         have c26b0 : decide (512 ≤ a0_5) = false := decide_eq_false c26
         clear c26
         obtain rfl := Option.some.inj H
         have hcz28_0 : wc.cell? ⟨gb369, 0, none⟩ = some (.int .i64 a0_0) := (blk_cell BK369.out 0).trans rfl
         have hcz28_1 : wc.cell? ⟨gb369, 1, none⟩ = some (.int .i64 a0_1) := (blk_cell BK369.out 1).trans rfl
         have hcz28_2 : wc.cell? ⟨gb369, 2, none⟩ = some (.int .i64 a0_2) := (blk_cell BK369.out 2).trans rfl
         have hcz28_3 : wc.cell? ⟨gb369, 3, none⟩ = some (.int .i64 a0_3) := (blk_cell BK369.out 3).trans rfl
         have hcz28_4 : wc.cell? ⟨gb369, 4, none⟩ = some (.int .i64 a0_4) := (blk_cell BK369.out 4).trans rfl
         have hcz28_5 : wc.cell? ⟨gb369, 5, none⟩ = some (.int .i64 a0_5) := (blk_cell BK369.out 5).trans rfl
         have hcz28_6 : wc.cell? ⟨gb369, 6, none⟩ = some (.int .i64 a0_6) := (blk_cell BK369.out 6).trans rfl
         have hcz28_7 : wc.cell? ⟨gb369, 7, none⟩ = some (.int .i64 a0_7) := (blk_cell BK369.out 7).trans rfl
         have hfz28_0 := blk_frozen BK369.out 0
         have hfz28_1 := blk_frozen BK369.out 1
         have hfz28_2 := blk_frozen BK369.out 2
         have hfz28_3 := blk_frozen BK369.out 3
         have hfz28_4 := blk_frozen BK369.out 4
         have hfz28_5 := blk_frozen BK369.out 5
         have hfz28_6 := blk_frozen BK369.out 6
         have hfz28_7 := blk_frozen BK369.out 7
         go_wp2_with (first | ((with_reducible refine gate_callee (f := 50) rfl ?_); refine goesL_ (some 36) rfl rfl Try.func50 (by kernel_rfl) rfl #[.int .i64 a0_4] rfl (by (try simp only [List.map_toArray, List.map_cons, List.map_nil]); first | done | rfl | (simp only [List.length_drop, List.length_take]; rfl)) ?_; (with_reducible refine (cressetref03_nought.calls a0_4 true _ A18.out).mono ?_); rintro e w' ⟨rfl, ⟨nd, rfl⟩⟩; refine ⟨_, rfl, ?_⟩) | (go_at_call 50; (with_reducible refine (cressetref03_nought.calls a0_6 true _ A20.out).mono ?_); rintro e w' ⟨rfl, ⟨nd, rfl⟩⟩) | (go_at_call 50; (with_reducible refine (cressetref03_nought.calls a0_7 true _ A22.out).mono ?_); rintro e w' ⟨rfl, ⟨nd, rfl⟩⟩))
         go_ret
         exact ⟨by first | rfl | (simp [errW_none, errW_some] <;> rfl) | (simp [*, errW_none, errW_some] <;> rfl), by repeat (first | (with_reducible first | exact HB.out | apply below_alloc | apply pw_below_drewN | apply below_drew1 | refine below_set ?_ GE369.out) | exact HB.out)⟩
      ·
       replace c23 := Bool.eq_false_iff.mpr c23
       subst c23
       have H1 : (some 32) = some r := by rw [if_neg (show ¬ (false = true) by decide)] at H; first | done | exact H
       clear H
       have H := H1
       clear H1
       obtain rfl := Option.some.inj H
       have hcz29_0 : wc.cell? ⟨gb369, 0, none⟩ = some (.int .i64 a0_0) := (blk_cell BK369.out 0).trans rfl
       have hcz29_1 : wc.cell? ⟨gb369, 1, none⟩ = some (.int .i64 a0_1) := (blk_cell BK369.out 1).trans rfl
       have hcz29_2 : wc.cell? ⟨gb369, 2, none⟩ = some (.int .i64 a0_2) := (blk_cell BK369.out 2).trans rfl
       have hcz29_3 : wc.cell? ⟨gb369, 3, none⟩ = some (.int .i64 a0_3) := (blk_cell BK369.out 3).trans rfl
       have hcz29_4 : wc.cell? ⟨gb369, 4, none⟩ = some (.int .i64 a0_4) := (blk_cell BK369.out 4).trans rfl
       have hcz29_5 : wc.cell? ⟨gb369, 5, none⟩ = some (.int .i64 a0_5) := (blk_cell BK369.out 5).trans rfl
       have hcz29_6 : wc.cell? ⟨gb369, 6, none⟩ = some (.int .i64 a0_6) := (blk_cell BK369.out 6).trans rfl
       have hcz29_7 : wc.cell? ⟨gb369, 7, none⟩ = some (.int .i64 a0_7) := (blk_cell BK369.out 7).trans rfl
       have hfz29_0 := blk_frozen BK369.out 0
       have hfz29_1 := blk_frozen BK369.out 1
       have hfz29_2 := blk_frozen BK369.out 2
       have hfz29_3 := blk_frozen BK369.out 3
       have hfz29_4 := blk_frozen BK369.out 4
       have hfz29_5 := blk_frozen BK369.out 5
       have hfz29_6 := blk_frozen BK369.out 6
       have hfz29_7 := blk_frozen BK369.out 7
       go_wp2_with (first | ((with_reducible refine gate_callee (f := 50) rfl ?_); refine goesL_ (some 36) rfl rfl Try.func50 (by kernel_rfl) rfl #[.int .i64 a0_4] rfl (by (try simp only [List.map_toArray, List.map_cons, List.map_nil]); first | done | rfl | (simp only [List.length_drop, List.length_take]; rfl)) ?_; (with_reducible refine (cressetref03_nought.calls a0_4 true _ A18.out).mono ?_); rintro e w' ⟨rfl, ⟨nd, rfl⟩⟩; refine ⟨_, rfl, ?_⟩) | (go_at_call 50; (with_reducible refine (cressetref03_nought.calls a0_6 true _ A20.out).mono ?_); rintro e w' ⟨rfl, ⟨nd, rfl⟩⟩) | (go_at_call 50; (with_reducible refine (cressetref03_nought.calls a0_7 false _ A22.out).mono ?_); rintro e w' ⟨rfl, ⟨nd, rfl⟩⟩))
       go_ret
       exact ⟨by first | rfl | (simp [errW_none, errW_some] <;> rfl) | (simp [*, errW_none, errW_some] <;> rfl), by repeat (first | (with_reducible first | exact HB.out | apply below_alloc | apply pw_below_drewN | apply below_drew1 | refine below_set ?_ GE369.out) | exact HB.out)⟩
     ·
      replace c21 := Bool.eq_false_iff.mpr c21
      subst c21
      have H1 : (some 32) = some r := by rw [if_neg (show ¬ (false = true) by decide)] at H; first | done | exact H
      clear H
      have H := H1
      clear H1
      obtain rfl := Option.some.inj H
      have hcz30_0 : wc.cell? ⟨gb369, 0, none⟩ = some (.int .i64 a0_0) := (blk_cell BK369.out 0).trans rfl
      have hcz30_1 : wc.cell? ⟨gb369, 1, none⟩ = some (.int .i64 a0_1) := (blk_cell BK369.out 1).trans rfl
      have hcz30_2 : wc.cell? ⟨gb369, 2, none⟩ = some (.int .i64 a0_2) := (blk_cell BK369.out 2).trans rfl
      have hcz30_3 : wc.cell? ⟨gb369, 3, none⟩ = some (.int .i64 a0_3) := (blk_cell BK369.out 3).trans rfl
      have hcz30_4 : wc.cell? ⟨gb369, 4, none⟩ = some (.int .i64 a0_4) := (blk_cell BK369.out 4).trans rfl
      have hcz30_5 : wc.cell? ⟨gb369, 5, none⟩ = some (.int .i64 a0_5) := (blk_cell BK369.out 5).trans rfl
      have hcz30_6 : wc.cell? ⟨gb369, 6, none⟩ = some (.int .i64 a0_6) := (blk_cell BK369.out 6).trans rfl
      have hcz30_7 : wc.cell? ⟨gb369, 7, none⟩ = some (.int .i64 a0_7) := (blk_cell BK369.out 7).trans rfl
      have hfz30_0 := blk_frozen BK369.out 0
      have hfz30_1 := blk_frozen BK369.out 1
      have hfz30_2 := blk_frozen BK369.out 2
      have hfz30_3 := blk_frozen BK369.out 3
      have hfz30_4 := blk_frozen BK369.out 4
      have hfz30_5 := blk_frozen BK369.out 5
      have hfz30_6 := blk_frozen BK369.out 6
      have hfz30_7 := blk_frozen BK369.out 7
      go_wp2_with (first | ((with_reducible refine gate_callee (f := 50) rfl ?_); refine goesL_ (some 36) rfl rfl Try.func50 (by kernel_rfl) rfl #[.int .i64 a0_4] rfl (by (try simp only [List.map_toArray, List.map_cons, List.map_nil]); first | done | rfl | (simp only [List.length_drop, List.length_take]; rfl)) ?_; (with_reducible refine (cressetref03_nought.calls a0_4 true _ A18.out).mono ?_); rintro e w' ⟨rfl, ⟨nd, rfl⟩⟩; refine ⟨_, rfl, ?_⟩) | (go_at_call 50; (with_reducible refine (cressetref03_nought.calls a0_6 false _ A20.out).mono ?_); rintro e w' ⟨rfl, ⟨nd, rfl⟩⟩))
      go_ret
      exact ⟨by first | rfl | (simp [errW_none, errW_some] <;> rfl) | (simp [*, errW_none, errW_some] <;> rfl), by repeat (first | (with_reducible first | exact HB.out | apply below_alloc | apply pw_below_drewN | apply below_drew1 | refine below_set ?_ GE369.out) | exact HB.out)⟩
    ·
     replace c19 := Bool.eq_false_iff.mpr c19
     subst c19
     have H1 : (some 32) = some r := by rw [if_neg (show ¬ (false = true) by decide)] at H; first | done | exact H
     clear H
     have H := H1
     clear H1
     obtain rfl := Option.some.inj H
     have hcz31_0 : wc.cell? ⟨gb369, 0, none⟩ = some (.int .i64 a0_0) := (blk_cell BK369.out 0).trans rfl
     have hcz31_1 : wc.cell? ⟨gb369, 1, none⟩ = some (.int .i64 a0_1) := (blk_cell BK369.out 1).trans rfl
     have hcz31_2 : wc.cell? ⟨gb369, 2, none⟩ = some (.int .i64 a0_2) := (blk_cell BK369.out 2).trans rfl
     have hcz31_3 : wc.cell? ⟨gb369, 3, none⟩ = some (.int .i64 a0_3) := (blk_cell BK369.out 3).trans rfl
     have hcz31_4 : wc.cell? ⟨gb369, 4, none⟩ = some (.int .i64 a0_4) := (blk_cell BK369.out 4).trans rfl
     have hcz31_5 : wc.cell? ⟨gb369, 5, none⟩ = some (.int .i64 a0_5) := (blk_cell BK369.out 5).trans rfl
     have hcz31_6 : wc.cell? ⟨gb369, 6, none⟩ = some (.int .i64 a0_6) := (blk_cell BK369.out 6).trans rfl
     have hcz31_7 : wc.cell? ⟨gb369, 7, none⟩ = some (.int .i64 a0_7) := (blk_cell BK369.out 7).trans rfl
     have hfz31_0 := blk_frozen BK369.out 0
     have hfz31_1 := blk_frozen BK369.out 1
     have hfz31_2 := blk_frozen BK369.out 2
     have hfz31_3 := blk_frozen BK369.out 3
     have hfz31_4 := blk_frozen BK369.out 4
     have hfz31_5 := blk_frozen BK369.out 5
     have hfz31_6 := blk_frozen BK369.out 6
     have hfz31_7 := blk_frozen BK369.out 7
     go_wp2_with (first | ((with_reducible refine gate_callee (f := 50) rfl ?_); refine goesL_ (some 36) rfl rfl Try.func50 (by kernel_rfl) rfl #[.int .i64 a0_4] rfl (by (try simp only [List.map_toArray, List.map_cons, List.map_nil]); first | done | rfl | (simp only [List.length_drop, List.length_take]; rfl)) ?_; (with_reducible refine (cressetref03_nought.calls a0_4 false _ A18.out).mono ?_); rintro e w' ⟨rfl, ⟨nd, rfl⟩⟩; refine ⟨_, rfl, ?_⟩))
     go_ret
     exact ⟨by first | rfl | (simp [errW_none, errW_some] <;> rfl) | (simp [*, errW_none, errW_some] <;> rfl), by repeat (first | (with_reducible first | exact HB.out | apply below_alloc | apply pw_below_drewN | apply below_drew1 | refine below_set ?_ GE369.out) | exact HB.out)⟩

end Go.Proofs.Ytkcdmoghnoodmaa.B

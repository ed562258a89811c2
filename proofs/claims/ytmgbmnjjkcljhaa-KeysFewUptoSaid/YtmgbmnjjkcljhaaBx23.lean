-- Written by a program of this session (wip/print2) out of Lean's print of the translation. Not trusted: Lean checks it.
import Derived.Test.YtmgbmnjjkcljhaaBx0
import Derived.Test.YtmgbmnjjkcljhaaBx6
import Derived.Test.YtmgbmnjjkcljhaaBx10
import Derived.Test.YtmgbmnjjkcljhaaBx21
import Derived.Test.YtmgbmnjjkcljhaaBx22
namespace Go.Proofs.Ytmgbmnjjkcljhaa.B
open Go.RowKit Go.Proofs.YtmgbmnjjkcljhaaW.PrintWords Go.Proofs.YtmgbmnjjkcljhaaW.PrintLast Go.Proofs.YtmgbmnjjkcljhaaW.PrintMore Go.Proofs.YtmgbmnjjkcljhaaW.Mine
attribute [local go_sem] max2_int min2_int max_two min_two max_three min_three max_four min_four str_gtr str_leq str_geq str_max str_min   -- for this text's walks alone
set_option linter.unusedVariables false
set_option linter.unusedSimpArgs false

/-! ### cressetlaw05_KeysFew: function 7 -/
mutual
def cressetlaw05_KeysFew.l0 : Nat → List (List (S27)) → Int → Int → Option (Bool)
  | 0, _, _, _ => none
  | k + 1, x14, x15, x16 => if x16 < x15 then (if 0 ≤ x16 then (if x16 < (x14.length : Int) then (cressetlaw05_KeysFew.l1 k (rd_L3 x14 x16) x14 x15 x16 (rd_L3 x14 x16) ((rd_L3 x14 x16).length : Int) 0) else (none)) else (none)) else ((cressetlaw05_live.f k).bind fun t290 => (some t290))
def cressetlaw05_KeysFew.l1 : Nat → List (S27) → List (List (S27)) → Int → Int → List (S27) → Int → Int → Option (Bool)
  | 0, _, _, _, _, _, _, _ => none
  | k + 1, x6, x14, x15, x16, x20, x21, x22 => if x22 < x21 then (if 0 ≤ x22 then (if x22 < (x20.length : Int) then ((keys_Empty.f ((rd_T27 x20 x22).f0) ((rd_T27 x20 x22).f1)).bind fun t294 => (if t294 = true then (some false) else (if x22 > 0 then (if 0 ≤ (wrap64 (x22 - 1)) then (if (wrap64 (x22 - 1)) < (x6.length : Int) then (if ((rd_T27 x6 (wrap64 (x22 - 1))).f1).toList = ([] : List UInt8) then (some false) else (if ((Op.bytesLess (((rd_T27 x6 (wrap64 (x22 - 1))).f1).toList) (((rd_T27 x20 x22).f0).toList)) = true) then (cressetlaw05_KeysFew.l1 k x6 x14 x15 x16 x20 x21 (wrap64 (x22 + 1))) else (some false))) else (none)) else (none)) else (cressetlaw05_KeysFew.l1 k x6 x14 x15 x16 x20 x21 (wrap64 (x22 + 1)))))) else (none)) else (none)) else (cressetlaw05_KeysFew.l0 k x14 x15 (wrap64 (x16 + 1)))
end
def cressetlaw05_KeysFew.f (k : Nat) (l0 : List (S27)) (a1_0 : ByteArray) (a1_1 : ByteArray) : Option (Bool) := (keys_Union.f k l0).bind fun t281 => ((keys_Minus.f k l0 a1_0 a1_1).bind fun t284 => ((some (([t281, t284] : List (List (S27))) : List (List (S27)))).bind fun y287 => (cressetlaw05_KeysFew.l0 k y287 (y287.length : Int) 0)))
theorem cressetlaw05_KeysFew.mono_l : ∀ k, (∀ y0 y1 y2, LeO (cressetlaw05_KeysFew.l0 k y0 y1 y2) (cressetlaw05_KeysFew.l0 (k + 1) y0 y1 y2)) ∧ (∀ y0 y1 y2 y3 y4 y5 y6, LeO (cressetlaw05_KeysFew.l1 k y0 y1 y2 y3 y4 y5 y6) (cressetlaw05_KeysFew.l1 (k + 1) y0 y1 y2 y3 y4 y5 y6))
  | 0 => ⟨fun _ _ _ r h => by simp [cressetlaw05_KeysFew.l0] at h, fun _ _ _ _ _ _ _ r h => by simp [cressetlaw05_KeysFew.l1] at h⟩
  | k + 1 => by
    obtain ⟨ih0, ih1⟩ := cressetlaw05_KeysFew.mono_l k
    refine ⟨?_, ?_⟩
    · intro y0 y1 y2
      unfold cressetlaw05_KeysFew.l0
      repeat' first
      | (with_reducible exact ih0 _ _ _)
      | (with_reducible exact ih1 _ _ _ _ _ _ _)
      | (with_reducible exact cressetlaw05_live.mono _)
      | (with_reducible exact keys_Minus.mono _ _ _ _)
      | (with_reducible exact keys_Union.mono _ _)
      | (with_reducible exact LeO.refl _)
      | (with_reducible exact LeO.none _)
      | (with_reducible refine LeO.ite ?_ ?_)
      | (with_reducible refine LeO.bind ?_ (fun _ => ?_))
      | exact ih0 _ _ _
      | exact ih1 _ _ _ _ _ _ _
      | exact cressetlaw05_live.mono _
      | exact keys_Minus.mono _ _ _ _
      | exact keys_Union.mono _ _
      | exact LeO.none _
      | refine LeO.ite ?_ ?_
      | refine LeO.bind ?_ (fun _ => ?_)
    · intro y0 y1 y2 y3 y4 y5 y6
      unfold cressetlaw05_KeysFew.l1
      repeat' first
      | (with_reducible exact ih0 _ _ _)
      | (with_reducible exact ih1 _ _ _ _ _ _ _)
      | (with_reducible exact cressetlaw05_live.mono _)
      | (with_reducible exact keys_Minus.mono _ _ _ _)
      | (with_reducible exact keys_Union.mono _ _)
      | (with_reducible exact LeO.refl _)
      | (with_reducible exact LeO.none _)
      | (with_reducible refine LeO.ite ?_ ?_)
      | (with_reducible refine LeO.bind ?_ (fun _ => ?_))
      | exact ih0 _ _ _
      | exact ih1 _ _ _ _ _ _ _
      | exact cressetlaw05_live.mono _
      | exact keys_Minus.mono _ _ _ _
      | exact keys_Union.mono _ _
      | exact LeO.none _
      | refine LeO.ite ?_ ?_
      | refine LeO.bind ?_ (fun _ => ?_)
theorem cressetlaw05_KeysFew.mono : ∀ a0 a1 a2 k, LeO (cressetlaw05_KeysFew.f k a0 a1 a2) (cressetlaw05_KeysFew.f (k + 1) a0 a1 a2) := by
  intro a0 a1 a2 k
  obtain ⟨ih0, ih1⟩ := cressetlaw05_KeysFew.mono_l k
  unfold cressetlaw05_KeysFew.f
  repeat' first
      | (with_reducible exact ih0 _ _ _)
      | (with_reducible exact ih1 _ _ _ _ _ _ _)
      | (with_reducible exact cressetlaw05_live.mono _)
      | (with_reducible exact keys_Minus.mono _ _ _ _)
      | (with_reducible exact keys_Union.mono _ _)
      | (with_reducible exact LeO.refl _)
      | (with_reducible exact LeO.none _)
      | (with_reducible refine LeO.ite ?_ ?_)
      | (with_reducible refine LeO.bind ?_ (fun _ => ?_))
      | exact ih0 _ _ _
      | exact ih1 _ _ _ _ _ _ _
      | exact cressetlaw05_live.mono _
      | exact keys_Minus.mono _ _ _ _
      | exact keys_Union.mono _ _
      | exact LeO.none _
      | refine LeO.ite ?_ ?_
      | refine LeO.bind ?_ (fun _ => ?_)
def cressetlaw05_KeysFew.T1 : Bool × List (List Nat × List Nat) := (true, [([], []), ([0], [0]), ([], []), ([], []), ([2, 3, 1], [2, 3]), ([1, 4], [1, 4]), ([5], [5]), ([], [])])
def cressetlaw05_KeysFew.B1 : List Nat := [0, 1, 0, 0, 15, 31, 63, 0]
theorem cressetlaw05_KeysFew.tab1 : rtab .any (opsOf Try.f7 1) = cressetlaw05_KeysFew.T1 := by kernel_rfl
theorem cressetlaw05_KeysFew.bits1 : waitsOk cressetlaw05_KeysFew.T1.2 cressetlaw05_KeysFew.B1 = true := by kernel_rfl
def cressetlaw05_KeysFew.T7 : Bool × List (List Nat × List Nat) := (true, [([], []), ([0], [0]), ([1, 1], [1]), ([2], [2]), ([3, 2], [2, 3]), ([4, 2, 2], [2, 4]), ([5], [5]), ([5], [5]), ([7, 5], [5, 7]), ([6, 8, 5], [5, 6, 8]), ([9, 5], [5, 9]), ([10, 5], [5, 10]), ([11, 5], [5, 11]), ([12, 5, 5], [5, 12]), ([13], [13]), ([13], [13]), ([15, 13], [13, 15]), ([14, 16, 13], [13, 14, 16]), ([17, 13], [13, 17]), ([18, 13], [13, 18]), ([13], [13]), ([20, 13], [13, 20]), ([19, 21, 13], [13, 19, 21]), ([13, 22, 5], [5, 13, 22]), ([5, 23, 2], [2, 5, 23]), ([2, 24], [2, 24])])
def cressetlaw05_KeysFew.B7 : List Nat := [0, 1, 3, 7, 15, 31, 63, 63, 191, 511, 1023, 2047, 4095, 8191, 16383, 16383, 49151, 131071, 262143, 524287, 16383, 1064959, 4194303, 8388607, 16777215, 33554431]
theorem cressetlaw05_KeysFew.tab7 : rtab .any (opsOf Try.f7 7) = cressetlaw05_KeysFew.T7 := by kernel_rfl
theorem cressetlaw05_KeysFew.bits7 : waitsOk cressetlaw05_KeysFew.T7.2 cressetlaw05_KeysFew.B7 = true := by kernel_rfl
set_option maxHeartbeats 8000000 in
set_option maxRecDepth 100000 in
theorem cressetlaw05_KeysFew.calls (k : Nat) (A0 : Option Addr) (c0 : Nat) (l0 : List (S27)) (a1_0 : ByteArray) (a1_1 : ByteArray) (w : World) (hr0 : Kd.C k27 w A0 l0.length l0) (hc0 : l0.length ≤ c0) (h : cressetlaw05_KeysFew.f k l0 a1_0 a1_1 = some true) :
    Calls Try.prog 7 #[.slice A0 l0.length c0, .agg #[.string a1_0, .string a1_1]] w fun e w' => e = .returned (.bool true) ∧ Below w.heap.size w w' := by
 have hu27 := Try.underlying27
 have HR0 := Aside0.mk hr0
 have HC0 := Aside0.mk hc0
 clear hr0 hc0
 have HB := Aside0.mk (Below.refl w.heap.size w)
 have H : ((keys_Union.f k l0).bind fun t281 => ((keys_Minus.f k l0 a1_0 a1_1).bind fun t284 => ((some (([t281, t284] : List (List (S27))) : List (List (S27)))).bind fun y287 => (cressetlaw05_KeysFew.l0 k y287 (y287.length : Int) 0)))) = some true := h
 clear h
 replace H := Option.bind_eq_some_iff.mp H
 obtain ⟨t281, A30, H⟩ := H
 replace H : ((keys_Minus.f k l0 a1_0 a1_1).bind fun t284 => ((some (([t281, t284] : List (List (S27))) : List (List (S27)))).bind fun y287 => (cressetlaw05_KeysFew.l0 k y287 (y287.length : Int) 0))) = some true := H
 have A3 := Aside0.mk A30
 clear A30
 replace H := Option.bind_eq_some_iff.mp H
 obtain ⟨t284, A40, H⟩ := H
 replace H : ((some (([t281, t284] : List (List (S27))) : List (List (S27)))).bind fun y287 => (cressetlaw05_KeysFew.l0 k y287 (y287.length : Int) 0)) = some true := H
 have A4 := Aside0.mk A40
 clear A40
 obtain ⟨y287, hy287⟩ : ∃ y_ : List (List (S27)), y_ = (([t281, t284] : List (List (S27)))) := ⟨_, rfl⟩
 replace H : (cressetlaw05_KeysFew.l0 k y287 (y287.length : Int) 0) = some true := by first | (rw [hy287]; with_reducible exact H) | (have H2_ := (Option.bind_some _ _).symm.trans H; rw [hy287]; with_reducible exact H2_) | (have H2_ := (Option.bind_some _ _).symm.trans H; with_reducible exact H2_) | with_reducible exact H | (rw [hy287]; exact H) | exact H
 have Ny287 := Aside0.mk hy287
 clear hy287
 have H' := Aside0.mk H
 clear H
 go_enter Try.func7, Try.ntmps7
 try go_wp2_with (first | ((with_reducible refine gate_dst (N := 3) rfl ?_); refine box_event ?hg (N := 3) ?hd (cs := #[.string a1_0, .string a1_1]) (t := 27) ?hr ?_; (case hd => rfl); (case hg => rfl); (case hr => first | (go_simp; done) | (go_simp; rfl)); intro gb280 hg w5 hbox hb; have n0_ := Aside0.mk (below_step (by repeat (first | (with_reducible first | exact HB.out | apply below_alloc | apply pw_below_drewN | apply below_drew1) | exact HB.out)) hb); have n1_ := Aside0.mk (hbox); have n2_ := Aside0.mk ((by rw [hg]; exact (below_size (by repeat (first | (with_reducible first | exact HB.out | apply below_alloc | apply pw_below_drewN | apply below_drew1) | exact HB.out))) : w.heap.size ≤ gb280)); have n3_ := Aside0.mk ((by rw [hg]; exact (below_size (by repeat (first | (with_reducible first | exact HB.out | apply below_alloc | apply pw_below_drewN | apply below_drew1) | exact HB.out))) : w.heap.size ≤ gb280)); clear HB; have HB := n0_; have BK280 := n1_; have GW280 := n2_; have GE280 := n3_; clear n0_ n1_ n2_ n3_; clear hb hbox hg))
 have n0_ := Aside0.mk (blk_drew BK280.out)
 have n1_ := Aside0.mk (below_drew1 HB.out)
 clear BK280
 clear HB
 have BK280 := n0_
 have HB := n1_
 clear n0_ n1_
 refine start_ (n := 8) (S := fun w' => w'.cell? ⟨gb280, 0, none⟩ = some (.string a1_0) ∧ w'.cell? ⟨gb280, 1, none⟩ = some (.string a1_1)) (ds := []) #[false, false, false, false, false, false, false, false] (by kernel_rfl) rfl rfl ⟨(blk_cell BK280.out 0).trans rfl, (blk_cell BK280.out 1).trans rfl⟩ (fun hHeld => ?_); refine with_tabW cressetlaw05_KeysFew.tab1 cressetlaw05_KeysFew.bits1 (fun HT_ HW_ => ?_)
 generalize w5.drew = w6 at BK280 HB hHeld ⊢
 refine pure_ (i := 0) (N := some 9) (v := ?_) (a' := ?_) #[true, false, false, false, false, false, false, false] rfl rfl (any_of HT_.out (by kernel_rfl)) (fun _ _ _ h => h) (Or.inl ⟨by rfl, ?_⟩) ?_ ?_
 rotate_left
 ·
  intro w'
  go_simp
  with_reducible rfl
 rotate_left
 ·
  simp only [Act.put, List.setIfInBounds_toArray, List.set_cons_zero, List.set_cons_succ, i64_w, i32_w]
  rfl
 refine pure_ (i := 2) (N := some 11) (v := ?_) (a' := ?_) #[true, false, true, false, false, false, false, false] rfl rfl (any_of HT_.out (by kernel_rfl)) (fun _ _ _ h => h) (Or.inl ⟨by rfl, ?_⟩) ?_ ?_
 rotate_left
 ·
  intro w'
  go_simp
  with_reducible rfl
 rotate_left
 ·
  simp only [Act.put, List.setIfInBounds_toArray, List.set_cons_zero, List.set_cons_succ, i64_w, i32_w]
  rfl
 refine pure_ (i := 7) (N := some 16) (v := ?_) (a' := ?_) #[true, false, true, false, false, false, false, true] rfl rfl (any_of HT_.out (by kernel_rfl)) (fun _ _ _ h => h) (Or.inl ⟨by rfl, ?_⟩) ?_ ?_
 rotate_left
 ·
  intro w'
  go_simp
  with_reducible rfl
 rotate_left
 ·
  simp only [Act.put, List.setIfInBounds_toArray, List.set_cons_zero, List.set_cons_succ, i64_w, i32_w]
  rfl
 refine take_ (i := 3) (N := some 12) (v := ?_) (a' := ?_) #[true, false, true, true, false, false, false, true] rfl rfl (take_ofW HT_.out HW_.out (by kernel_rfl)) (fun _ _ _ h => h) (Or.inl ⟨by rfl, ?_⟩) hHeld ?_ ?_
 rotate_left
 ·
  rintro w' ⟨s0, s1⟩
  go_simp
  with_reducible rfl
 rotate_left
 ·
  simp only [Act.put, List.setIfInBounds_toArray, List.set_cons_zero, List.set_cons_succ, i64_w, i32_w]
  rfl
 refine one_ (i := 1) (N := some 10) #[true, true, true, true, false, false, false, true] rfl rfl (one_of HT_.out (by kernel_rfl)) (by decide) (fun K hK => ?_)
 refine goes_ Try.func29 (by kernel_rfl) rfl #[.slice A0 l0.length c0] (by rfl) rfl rfl (by (try simp only [List.map_toArray, List.map_cons, List.map_nil]); first | done | rfl | (simp only [List.length_drop, List.length_take]; rfl)) ?_
 with_reducible refine (keys_Union.calls k _ _ l0 t281 _ ?side1 ?side2 A3.out).mono ?_
 (case side1 => repeat (first | exact (Kd.C_below HR0.out HB.out) | (with_reducible refine Kd.C_alloc ?_ _) | (with_reducible refine Kd.C_drewN ?_ _) | (with_reducible refine Kd.C_drew ?_)))
 (case side2 => exact HC0.out)
 rintro e w7 ⟨v282, rfl, ho0, hb⟩
 refine ⟨_, rfl, ?_⟩
 have n0_ := Aside0.mk (Kd.R_lower (Kd.R_newB ho0 (g := gb280) (o := .cells #[.string a1_0, .string a1_1] 27 (0, 0)) (by (with_reducible repeat (first | refine blk_drewN ?_ _ | refine blk_drew ?_ | refine blk_alloc ?_ _)); exact BK280.out)) (below_size (by repeat (first | (with_reducible first | exact HB.out | apply below_alloc | apply pw_below_drewN | apply below_drew1 | refine below_set ?_ GE280.out) | exact HB.out))))
 have n1_ := Aside0.mk (blk_below (g := gb280) (o := .cells #[.string a1_0, .string a1_1] 27 (0, 0)) (by (with_reducible repeat (first | refine blk_drewN ?_ _ | refine blk_drew ?_ | refine blk_alloc ?_ _)); exact BK280.out) hb)
 have n2_ := Aside0.mk (below_step (by repeat (first | (with_reducible first | exact HB.out | apply below_alloc | apply pw_below_drewN | apply below_drew1 | refine below_set ?_ GE280.out) | exact HB.out)) hb)
 clear BK280
 clear HB
 have HO283 := n0_
 have BK280 := n1_
 have HB := n2_
 clear n0_ n1_ n2_
 (try clear hb)
 (try clear hb2)
 (try clear hk)
 (try clear hi)
 (try clear ho0)
 refine hK.out _ _ ⟨(blk_cell BK280.out 0).trans rfl, (blk_cell BK280.out 1).trans rfl⟩ (fun hHeld => ?_)
 clear hK K
 refine norm_ (a' := ?_) ?_ ?_
 rotate_left
 ·
  show Act.put _ (some 10) _ = _
  simp only [Act.put, List.setIfInBounds_toArray, List.set_cons_zero, List.set_cons_succ, i64_w, i32_w]
  rfl
 refine one_ (i := 4) (N := some 13) #[true, true, true, true, true, false, false, true] rfl rfl (one_of HT_.out (by kernel_rfl)) (by decide) (fun K hK => ?_)
 refine goes_ Try.func30 (by kernel_rfl) rfl #[.slice A0 l0.length c0, .agg #[.string a1_0, .string a1_1]] (by rfl) rfl rfl (by (try simp only [List.map_toArray, List.map_cons, List.map_nil]); first | done | rfl | (simp only [List.length_drop, List.length_take]; rfl)) ?_
 with_reducible refine (keys_Minus.calls k _ _ l0 a1_0 a1_1 t284 _ ?side1 ?side2 A4.out).mono ?_
 (case side1 => repeat (first | exact (Kd.C_below HR0.out HB.out) | (with_reducible refine Kd.C_alloc ?_ _) | (with_reducible refine Kd.C_drewN ?_ _) | (with_reducible refine Kd.C_drew ?_)))
 (case side2 => exact HC0.out)
 rintro e w8 ⟨v285, rfl, ho0, hb⟩
 refine ⟨_, rfl, ?_⟩
 have n0_ := Aside0.mk (Kd.R_elder' (by (with_reducible repeat (first | apply Kd.R_alloc | apply Kd.R_drewN | apply Kd.R_drew)); exact HO283.out) (Kd.R_base ho0) hb)
 have n1_ := Aside0.mk (Kd.R_lower (Kd.R_newB (Kd.R_new' ho0 (Kd.R_lt (by (with_reducible repeat (first | apply Kd.R_alloc | apply Kd.R_drewN | apply Kd.R_drew)); exact HO283.out))) (g := gb280) (o := .cells #[.string a1_0, .string a1_1] 27 (0, 0)) (by (with_reducible repeat (first | refine blk_drewN ?_ _ | refine blk_drew ?_ | refine blk_alloc ?_ _)); exact BK280.out)) (below_size (by repeat (first | (with_reducible first | exact HB.out | apply below_alloc | apply pw_below_drewN | apply below_drew1 | refine below_set ?_ GE280.out) | exact HB.out))))
 have n2_ := Aside0.mk (blk_below (g := gb280) (o := .cells #[.string a1_0, .string a1_1] 27 (0, 0)) (by (with_reducible repeat (first | refine blk_drewN ?_ _ | refine blk_drew ?_ | refine blk_alloc ?_ _)); exact BK280.out) hb)
 have n3_ := Aside0.mk (below_step (by repeat (first | (with_reducible first | exact HB.out | apply below_alloc | apply pw_below_drewN | apply below_drew1 | refine below_set ?_ GE280.out) | exact HB.out)) hb)
 clear HO283
 clear BK280
 clear HB
 have HO283 := n0_
 have HO286 := n1_
 have BK280 := n2_
 have HB := n3_
 clear n0_ n1_ n2_ n3_
 (try clear hb)
 (try clear hb2)
 (try clear hk)
 (try clear hi)
 (try clear ho0)
 obtain ⟨Ao9, co9, eo9⟩ := Kd.R_slice HO283.out
 (first | subst eo9 | (injection eo9 with f1_ f2_ f3_; have f4_ := f1_.symm; have f5_ := f3_.symm; clear f1_ f2_ f3_; subst f4_; subst f5_))
 obtain ⟨Ao10, co10, eo10⟩ := Kd.R_slice HO286.out
 (first | subst eo10 | (injection eo10 with f1_ f2_ f3_; have f4_ := f1_.symm; have f5_ := f3_.symm; clear f1_ f2_ f3_; subst f4_; subst f5_))
 refine hK.out _ _ ⟨(blk_cell BK280.out 0).trans rfl, (blk_cell BK280.out 1).trans rfl⟩ (fun hHeld => ?_)
 clear hK K
 refine norm_ (a' := ?_) ?_ ?_
 rotate_left
 ·
  show Act.put _ (some 13) _ = _
  simp only [Act.put, List.setIfInBounds_toArray, List.set_cons_zero, List.set_cons_succ, i64_w, i32_w]
  rfl
 refine one_ (i := 5) (N := some 14) #[true, true, true, true, true, true, false, true] rfl rfl (one_of HT_.out (by kernel_rfl)) (by decide) (fun K hK => ?_)
 refine Kd.N_lit_step (Kd.slice 27 k27) _ 36 ?hg (N' := 14) ?hd (xs := ([t281, t284] : List (List (S27)))) (inner := [.slice Ao9 t281.length co9, .slice Ao10 t284.length co10]) (ok := (fun k_ => k_ ≠ gb280)) (okp := (fun k_ => k_ ≠ gb280)) ?hr ?hp (fun _ hk => hk) ((show ∀ k_, w8.heap.size ≤ k_ → (fun k_ => k_ ≠ gb280) k_ from fun k_ hk => Kd.freshB (g := gb280) (o := .cells #[.string a1_0, .string a1_1] 27 (0, 0)) (by (with_reducible repeat (first | refine blk_drewN ?_ _ | refine blk_drew ?_ | refine blk_alloc ?_ _)); exact BK280.out) k_ hk) _ (Nat.le_refl _)) (Below.refl _ _) (Nat.le_refl _) (by simp) ?_; (case hd => rfl); (case hg => rfl); (case hr => first | (go_simp; done) | (go_simp; rfl)); (case hp => exact (Reps.one (show Kd.FK (Kd.slice 27 k27) _ _ t281 [.slice Ao9 t281.length co9] from (Kd.FK_slice_mk (Kd.R_reads' (Kd.R_mono (ok' := (fun k_ => k_ ≠ gb280)) (HO283.out) (fun k_ hk => hk.1.2))).2.1 (Kd.R_F (Kd.R_mono (ok' := (fun k_ => k_ ≠ gb280)) (HO283.out) (fun k_ hk => hk.1.2))))) (Reps.one (show Kd.FK (Kd.slice 27 k27) _ _ t284 [.slice Ao10 t284.length co10] from (Kd.FK_slice_mk (Kd.R_reads' (Kd.R_mono (ok' := (fun k_ => k_ ≠ gb280)) (HO286.out) (fun k_ hk => hk.2))).2.1 (Kd.R_F (Kd.R_mono (ok' := (fun k_ => k_ ≠ gb280)) (HO286.out) (fun k_ hk => hk.2))))) (Reps.none _ _))))
 intro v288 w11 ho12 hb hg_ hnew_
 clear hg_ hnew_
 (first | rw [← Ny287.out] at ho12 | (simp only [Int.reduceToNat] at ho12; rw [← Ny287.out] at ho12))
 have n0_ := Aside0.mk (Kd.N_lower ho12 (below_size (by repeat (first | (with_reducible first | exact HB.out | apply below_alloc | apply pw_below_drewN | apply below_drew1 | refine below_set ?_ GE280.out) | exact HB.out))))
 have n1_ := Aside0.mk (blk_below (g := gb280) (o := .cells #[.string a1_0, .string a1_1] 27 (0, 0)) (by (with_reducible repeat (first | refine blk_drewN ?_ _ | refine blk_drew ?_ | refine blk_alloc ?_ _)); exact BK280.out) hb)
 have n2_ := Aside0.mk (below_step (by repeat (first | (with_reducible first | exact HB.out | apply below_alloc | apply pw_below_drewN | apply below_drew1 | refine below_set ?_ GE280.out) | exact HB.out)) hb)
 clear BK280
 clear HB
 clear HO283
 clear HO286
 have HO289 := n0_
 have BK280 := n1_
 have HB := n2_
 clear n0_ n1_ n2_
 clear hb ho12
 obtain ⟨Ao13, co13, eo13⟩ := Kd.N_slice HO289.out
 (first | subst eo13 | (injection eo13 with f1_ f2_ f3_; have f4_ := f1_.symm; have f5_ := f3_.symm; clear f1_ f2_ f3_; subst f4_; subst f5_))
 refine hK.out _ _ ⟨(blk_cell BK280.out 0).trans rfl, (blk_cell BK280.out 1).trans rfl⟩ (fun hHeld => ?_)
 clear hK K
 refine norm_ (a' := ?_) ?_ ?_
 rotate_left
 ·
  show Act.put _ (some 14) _ = _
  simp only [Act.put, List.setIfInBounds_toArray, List.set_cons_zero, List.set_cons_succ, i64_w, i32_w]
  rfl
 refine pure_ (i := 6) (N := some 15) (v := ?_) (a' := ?_) #[true, true, true, true, true, true, true, true] rfl rfl (any_of HT_.out (by kernel_rfl)) (fun _ _ _ h => h) (Or.inl ⟨by rfl, ?_⟩) ?_ ?_
 rotate_left
 ·
  intro w'
  go_simp
  with_reducible rfl
 rotate_left
 ·
  simp only [Act.put, List.setIfInBounds_toArray, List.set_cons_zero, List.set_cons_succ, i64_w, i32_w]
  rfl
 refine done_ (done_of HT_.out (by kernel_rfl)) ?_
 try go_wp2
 go_loopg [16] k (fun kq v16 w' => ∃ (x16_1 : Int), v16 = .int .i64 x16_1 ∧ Aside0 (cressetlaw05_KeysFew.l0 kq y287 (y287.length : Int) x16_1 = some true) ∧ Aside0 (kq ≤ k) ∧ Aside0 (Kd.N (Kd.slice 27 k27) 36 w' w.heap.size (fun k_ => k_ ≠ gb280) (.slice Ao13 y287.length co13) y287) ∧ Aside0 (w'.heap[gb280]? = some (.cells #[.string a1_0, .string a1_1] 27 (0, 0))) ∧ Aside0 (Below w.heap.size w w'))
 case atStart => exact ⟨(0), (by first | rfl | (simp; done) | (simp [*]; done)), H', ⟨Nat.le_refl _⟩, ⟨by (with_reducible repeat (first | apply Kd.N_alloc | apply Kd.N_drewN | apply Kd.N_drew)); exact HO289.out⟩, ⟨by (with_reducible repeat (first | refine blk_drewN ?_ _ | refine blk_drew ?_ | refine blk_alloc ?_ _)); exact BK280.out⟩, ⟨by repeat (first | (with_reducible first | exact HB.out | apply below_alloc | apply pw_below_drewN | apply below_drew1 | refine below_set ?_ GE280.out) | exact HB.out)⟩⟩
 case round =>
  clear H'
  try clear c2
  try clear p2
  try clear c3
  try clear c7
  obtain ⟨x16_1, rfl, HA, HK1, HO_14, BK280, HB⟩ := hrel
  cases gk with
  | zero => exact absurd HA.out (by simp [cressetlaw05_KeysFew.l0])
  | succ k1 =>
   have H := HA.out
   clear HA
   simp only [cressetlaw05_KeysFew.l0] at H
   by_cases c14 : x16_1 < (y287.length : Int)
   ·
    rw [if_pos c14] at H
    have c14b0 : decide (x16_1 < (y287.length : Int)) = true := decide_eq_true c14
    clear c14
    by_cases c15 : 0 ≤ x16_1
    ·
     rw [if_pos c15] at H
     have c15b0 : decide (0 ≤ x16_1) = true := decide_eq_true c15
     clear c15
     by_cases c16 : x16_1 < (y287.length : Int)
     ·
      rw [if_pos c16] at H
      have c16b0 : decide (x16_1 < (y287.length : Int)) = true := decide_eq_true c16
      clear c16
      have H' := Aside0.mk H
      clear H
      have p291 : 0 ≤ (x16_1 : Int) := of_decide_eq_true (by first | (with_reducible assumption) | assumption)
      have q291 : x16_1 < (y287.length : Int) := of_decide_eq_true (by first | (with_reducible assumption) | assumption)
      obtain ⟨ad291, A291_0, c291_0, e291, hx291_0, hl291_0, hi291_0⟩ := at_L3 (Kd.N_reads' HO_14.out).2.2 x16_1 p291 q291
      cases e291
      obtain ⟨ce291, hce291, hMe291, hcc291⟩ := Kd.N_get HO_14.out [] x16_1 p291 (by first | exact q291 | exact of_decide_eq_true (by first | (with_reducible assumption) | assumption) | (have e_ := (Kd.N_reads' HO_14.out).1; omega))
      obtain ⟨ua291_0, uc291_0, rfl, ul291_0, ge291_0⟩ := Kd.FK_slice_open hMe291
      have hv291_0 := hcc291 0 _ rfl
      rw [Nat.add_zero, show ((Kd.slice 27 k27)).sz = 1 from rfl, Nat.mul_one] at hv291_0
      replace hv291_0 := Option.some.inj (hv291_0.symm.trans hx291_0)
      injection hv291_0 with hva_ hvn_ hvc_
      rw [hva_] at ge291_0
      rw [hvc_] at ul291_0
      have HL291_0 := Aside0.mk (show Kd.V k27 27 _ w.heap.size _ _ (rd_L3 y287 x16_1) from Kd.V_mk ul291_0 ge291_0)
      clear hva_ hvn_ hvc_ ge291_0 ul291_0
      clear hcc291 hce291
      have HR291_0 := Aside0.mk hi291_0
      have HC291_0 := Aside0.mk hl291_0
      clear hi291_0 hl291_0
      replace p291 := eq_true p291
      replace q291 := eq_true q291
      go_wp2
      obtain ⟨WX, hWX⟩ : ∃ W_ : World, W_ = wr := ⟨_, rfl⟩
      rw [← hWX] at HR291_0
      have HBX := Aside0.mk (show Below WX.heap.size WX wr from by rw [hWX]; exact Below.refl _ _)
      clear hWX
      go_loopg [22] k1 (fun kq v22 w' => ∃ (x22_2 : Int), v22 = .int .i64 x22_2 ∧ Aside0 (cressetlaw05_KeysFew.l1 kq (rd_L3 y287 x16_1) y287 (y287.length : Int) x16_1 (rd_L3 y287 x16_1) ((rd_L3 y287 x16_1).length : Int) x22_2 = some true) ∧ Aside0 (kq ≤ k1) ∧ Aside0 (Kd.N (Kd.slice 27 k27) 36 w' w.heap.size (fun k_ => k_ ≠ gb280) (.slice (some ad291) y287.length co13) y287) ∧ Aside0 (w'.heap[gb280]? = some (.cells #[.string a1_0, .string a1_1] 27 (0, 0))) ∧ Aside0 (Below w.heap.size w w') ∧ Aside0 (Below WX.heap.size WX w'))
      case atStart => exact ⟨(0), (by first | rfl | (simp; done) | (simp [*]; done)), H', ⟨Nat.le_refl _⟩, ⟨by (with_reducible repeat (first | apply Kd.N_alloc | apply Kd.N_drewN | apply Kd.N_drew)); exact HO_14.out⟩, ⟨by (with_reducible repeat (first | refine blk_drewN ?_ _ | refine blk_drew ?_ | refine blk_alloc ?_ _)); exact BK280.out⟩, ⟨by repeat (first | (with_reducible first | exact HB.out | apply below_alloc | apply pw_below_drewN | apply below_drew1 | refine below_set ?_ GE280.out) | exact HB.out)⟩, ⟨by repeat (first | exact HBX.out | apply below_alloc | apply pw_below_drewN | apply below_drew1)⟩⟩
      case round =>
       clear H'
       try clear c1
       try clear c2
       try clear p2
       try clear q2
       try clear hx2
       try clear c3
       try clear c7
       try clear c14
       try clear c14b0
       try clear c15
       try clear c15b0
       try clear c16
       try clear c16b0
       try clear hx291_0
       try clear p2
       try clear p291
       try clear q291
       obtain ⟨x22_2, rfl, HA, HK2, HO_14, BK280, HB, HBX⟩ := hrel
       cases gk with
       | zero => exact absurd HA.out (by simp [cressetlaw05_KeysFew.l1])
       | succ k2 =>
        have H := HA.out
        clear HA
        simp only [cressetlaw05_KeysFew.l1] at H
        by_cases c17 : x22_2 < ((rd_L3 y287 x16_1).length : Int)
        ·
         rw [if_pos c17] at H
         have c17b0 : decide (x22_2 < ((rd_L3 y287 x16_1).length : Int)) = true := decide_eq_true c17
         clear c17
         by_cases c18 : 0 ≤ x22_2
         ·
          rw [if_pos c18] at H
          have c18b0 : decide (0 ≤ x22_2) = true := decide_eq_true c18
          clear c18
          by_cases c19 : x22_2 < ((rd_L3 y287 x16_1).length : Int)
          ·
           rw [if_pos c19] at H
           have c19b0 : decide (x22_2 < ((rd_L3 y287 x16_1).length : Int)) = true := decide_eq_true c19
           clear c19
           replace H := Option.bind_eq_some_iff.mp H
           obtain ⟨t294, A200, H⟩ := H
           replace H : (if t294 = true then (some false) else (if x22_2 > 0 then (if 0 ≤ (wrap64 (x22_2 - 1)) then (if (wrap64 (x22_2 - 1)) < ((rd_L3 y287 x16_1).length : Int) then (if ((rd_T27 (rd_L3 y287 x16_1) (wrap64 (x22_2 - 1))).f1).toList = ([] : List UInt8) then (some false) else (if ((Op.bytesLess (((rd_T27 (rd_L3 y287 x16_1) (wrap64 (x22_2 - 1))).f1).toList) (((rd_T27 (rd_L3 y287 x16_1) x22_2).f0).toList)) = true) then (cressetlaw05_KeysFew.l1 k2 (rd_L3 y287 x16_1) y287 (y287.length : Int) x16_1 (rd_L3 y287 x16_1) ((rd_L3 y287 x16_1).length : Int) (wrap64 (x22_2 + 1))) else (some false))) else (none)) else (none)) else (cressetlaw05_KeysFew.l1 k2 (rd_L3 y287 x16_1) y287 (y287.length : Int) x16_1 (rd_L3 y287 x16_1) ((rd_L3 y287 x16_1).length : Int) (wrap64 (x22_2 + 1))))) = some true := H
           have A20 := Aside0.mk A200
           clear A200
           by_cases c21 : t294 = true
           ·
            subst c21
            have H1 : (some false) = some true := by rw [if_pos rfl] at H; first | done | exact H
            clear H
            have H := H1
            clear H1
            exact absurd H (by simp)
           ·
            replace c21 := Bool.eq_false_iff.mpr c21
            subst c21
            have H1 : (if x22_2 > 0 then (if 0 ≤ (wrap64 (x22_2 - 1)) then (if (wrap64 (x22_2 - 1)) < ((rd_L3 y287 x16_1).length : Int) then (if ((rd_T27 (rd_L3 y287 x16_1) (wrap64 (x22_2 - 1))).f1).toList = ([] : List UInt8) then (some false) else (if ((Op.bytesLess (((rd_T27 (rd_L3 y287 x16_1) (wrap64 (x22_2 - 1))).f1).toList) (((rd_T27 (rd_L3 y287 x16_1) x22_2).f0).toList)) = true) then (cressetlaw05_KeysFew.l1 k2 (rd_L3 y287 x16_1) y287 (y287.length : Int) x16_1 (rd_L3 y287 x16_1) ((rd_L3 y287 x16_1).length : Int) (wrap64 (x22_2 + 1))) else (some false))) else (none)) else (none)) else (cressetlaw05_KeysFew.l1 k2 (rd_L3 y287 x16_1) y287 (y287.length : Int) x16_1 (rd_L3 y287 x16_1) ((rd_L3 y287 x16_1).length : Int) (wrap64 (x22_2 + 1)))) = some true := by rw [if_neg (show ¬ (false = true) by decide)] at H; first | done | exact H
            clear H
            have H := H1
            clear H1
            by_cases c22 : x22_2 > 0
            ·
             rw [if_pos c22] at H
             have c22b0 : decide (0 < x22_2) = true := decide_eq_true c22
             clear c22
             obtain ⟨ji23, hji23⟩ : ∃ j_ : Int, (wrap64 (x22_2 - 1)) = j_ := ⟨_, rfl⟩
             replace H : (if 0 ≤ (ji23) then (if (ji23) < ((rd_L3 y287 x16_1).length : Int) then (if ((rd_T27 (rd_L3 y287 x16_1) (ji23)).f1).toList = ([] : List UInt8) then (some false) else (if ((Op.bytesLess (((rd_T27 (rd_L3 y287 x16_1) (ji23)).f1).toList) (((rd_T27 (rd_L3 y287 x16_1) x22_2).f0).toList)) = true) then (cressetlaw05_KeysFew.l1 k2 (rd_L3 y287 x16_1) y287 (y287.length : Int) x16_1 (rd_L3 y287 x16_1) ((rd_L3 y287 x16_1).length : Int) (wrap64 (x22_2 + 1))) else (some false))) else (none)) else (none)) = some true := by first | (rw [hji23] at H; first | done | exact H) | (simp only [hji23] at H ⊢; exact H)
             (try rw [hji23] at A20)
             have hji23w : (IntKind.i64.wrap (x22_2 - 1)) = ji23 := (i64_w _).trans hji23
             by_cases c24 : 0 ≤ (ji23)
             ·
              rw [if_pos c24] at H
              have c24b0 : decide (0 ≤ (ji23)) = true := decide_eq_true c24
              clear c24
              by_cases c25 : (ji23) < ((rd_L3 y287 x16_1).length : Int)
              ·
               rw [if_pos c25] at H
               have c25b0 : decide ((ji23) < ((rd_L3 y287 x16_1).length : Int)) = true := decide_eq_true c25
               clear c25
               by_cases c26 : ((rd_T27 (rd_L3 y287 x16_1) (ji23)).f1).toList = ([] : List UInt8)
               ·
                rw [if_pos c26] at H
                have c26b0 : (((rd_T27 (rd_L3 y287 x16_1) (ji23)).f1).toList == ([] : List UInt8)) = true := beq_iff_eq.mpr c26
                have c26b1 : (((rd_T27 (rd_L3 y287 x16_1) (ji23)).f1).toList != ([] : List UInt8)) = false := bne_eq_false_iff_eq.mpr c26
                clear c26
                exact absurd H (by simp)
               ·
                rw [if_neg c26] at H
                have c26b0 : (((rd_T27 (rd_L3 y287 x16_1) (ji23)).f1).toList == ([] : List UInt8)) = false := beq_eq_false_iff_ne.mpr c26
                have c26b1 : (((rd_T27 (rd_L3 y287 x16_1) (ji23)).f1).toList != ([] : List UInt8)) = true := bne_iff_ne.mpr c26
                by_cases c27 : ((Op.bytesLess (((rd_T27 (rd_L3 y287 x16_1) (ji23)).f1).toList) (((rd_T27 (rd_L3 y287 x16_1) x22_2).f0).toList)) = true)
                ·
                 rw [if_pos c27] at H
                 have c27b0 : (Op.bytesLess (((rd_T27 (rd_L3 y287 x16_1) (ji23)).f1).toList) (((rd_T27 (rd_L3 y287 x16_1) x22_2).f0).toList)) = true := c27
                 clear c27
                 have H' := Aside0.mk H
                 clear H
                 have p292 : 0 ≤ (x22_2 : Int) := of_decide_eq_true (by first | (with_reducible assumption) | assumption)
                 have q292 : x22_2 < ((rd_L3 y287 x16_1).length : Int) := of_decide_eq_true (by first | (with_reducible assumption) | assumption)
                 obtain ⟨ad292, e292, hx292_0, hx292_1⟩ := at_T27 HR291_0.out x22_2 p292 q292
                 cases e292
                 replace hx292_0 := (HBX.out.cell (World.block_lt_of_cell? _ _ hx292_0)).trans hx292_0
                 replace hx292_1 := (HBX.out.cell (World.block_lt_of_cell? _ _ hx292_1)).trans hx292_1
                 replace p292 := eq_true p292
                 replace q292 := eq_true q292
                 try go_wp2_with (first | ((with_reducible refine gate_dst (N := 8) rfl ?_); refine box_event ?hg (N := 8) ?hd (cs := #[.string (⟨#[]⟩ : ByteArray), .string (⟨#[]⟩ : ByteArray)]) (t := 27) ?hr ?_; (case hd => rfl); (case hg => rfl); (case hr => first | (go_simp; done) | (go_simp; rfl)); intro gb293 hg w28 hbox hb; have GEX293 := Aside0.mk (by rw [hg]; exact below_size (by repeat (first | exact HBX.out | apply below_alloc | apply pw_below_drewN | apply below_drew1)) : WX.heap.size ≤ gb293); have n0_ := Aside0.mk (Kd.N_below (Kd.N_elderB (by (with_reducible repeat (first | apply Kd.N_alloc | apply Kd.N_drewN | apply Kd.N_drew)); exact HO_14.out) gb293 (Nat.le_of_eq hg.symm)) hb); have n1_ := Aside0.mk (blk_below (g := gb280) (o := .cells #[.string a1_0, .string a1_1] 27 (0, 0)) (by (with_reducible repeat (first | refine blk_drewN ?_ _ | refine blk_drew ?_ | refine blk_alloc ?_ _)); exact BK280.out) hb); have mx_ := Aside0.mk (below_step (by repeat (first | (with_reducible first | exact HBX.out | apply below_alloc | apply pw_below_drewN | apply below_drew1 | refine below_set ?_ GEX280.out) | exact HBX.out)) hb); clear HBX; have HBX := mx_; clear mx_; have n2_ := Aside0.mk (below_step (by repeat (first | (with_reducible first | exact HB.out | apply below_alloc | apply pw_below_drewN | apply below_drew1 | refine below_set ?_ GE280.out) | exact HB.out)) hb); have n3_ := Aside0.mk (hbox); have n4_ := Aside0.mk ((by rw [hg]; exact (below_size (by repeat (first | (with_reducible first | exact HB.out | apply below_alloc | apply pw_below_drewN | apply below_drew1 | refine below_set ?_ GE280.out) | exact HB.out))) : w.heap.size ≤ gb293)); have n5_ := Aside0.mk ((by rw [hg]; exact (below_size (by repeat (first | (with_reducible first | exact HB.out | apply below_alloc | apply pw_below_drewN | apply below_drew1 | refine below_set ?_ GE280.out) | exact HB.out))) : w.heap.size ≤ gb293)); have n6_ := Aside0.mk ((by rw [hg]; exact Nat.ne_of_lt (blk_lt (g := gb280) (o := .cells #[.string a1_0, .string a1_1] 27 (0, 0)) (by (with_reducible repeat (first | refine blk_drewN ?_ _ | refine blk_drew ?_ | refine blk_alloc ?_ _)); exact BK280.out)) : gb280 ≠ gb293)); have n7_ := Aside0.mk ((by rw [hg]; exact Nat.ne_of_gt (blk_lt (g := gb280) (o := .cells #[.string a1_0, .string a1_1] 27 (0, 0)) (by (with_reducible repeat (first | refine blk_drewN ?_ _ | refine blk_drew ?_ | refine blk_alloc ?_ _)); exact BK280.out)) : gb293 ≠ gb280)); clear HO_14; clear BK280; clear HB; have HO_14 := n0_; have BK280 := n1_; have HB := n2_; have BK293 := n3_; have GW293 := n4_; have GE293 := n5_; have NB280_293 := n6_; have NB293_280 := n7_; clear n0_ n1_ n2_ n3_ n4_ n5_ n6_ n7_; clear hb hbox hg; have hnb29 := NB293_280.out; have hnc29 := NB280_293.out; have hcz30_0 : w28.cell? ⟨gb293, 0, none⟩ = some (.string (⟨#[]⟩ : ByteArray)) := (blk_cell BK293.out 0).trans rfl; have hcz30_1 : w28.cell? ⟨gb293, 1, none⟩ = some (.string (⟨#[]⟩ : ByteArray)) := (blk_cell BK293.out 1).trans rfl; have hfz30_0 := blk_frozen BK293.out 0; have hfz30_1 := blk_frozen BK293.out 1))
                 have n0_ : Aside0 (Kd.N (Kd.slice 27 k27) 36 ((w28.setCell ⟨gb293, 0, none⟩ (.string ((rd_T27 (rd_L3 y287 x16_1) x22_2).f0))).setCell ⟨gb293, 1, none⟩ (.string ((rd_T27 (rd_L3 y287 x16_1) x22_2).f1))) w.heap.size (fun k_ => k_ ≠ gb280 ∧ k_ ≠ gb293) (.slice (some ad291) y287.length co13) y287) := ⟨by (with_reducible repeat (first | apply Kd.N_alloc | apply Kd.N_drewN | apply Kd.N_drew)); exact Kd.N_mono (Kd.N_far (p := ⟨gb293, 1, none⟩) (Kd.N_far (p := ⟨gb293, 0, none⟩) (Kd.N_mono HO_14.out (fun k_ hk => (⟨hk, hk.2⟩ : _ ∧ k_ ≠ gb293))) (fun _ hk => hk.2) (.string ((rd_T27 (rd_L3 y287 x16_1) x22_2).f0))) (fun _ hk => hk.2) (.string ((rd_T27 (rd_L3 y287 x16_1) x22_2).f1))) (fun _ hk => ⟨hk.1.1, hk.1.2⟩)⟩
                 have n1_ : Aside0 (((w28.setCell ⟨gb293, 0, none⟩ (.string ((rd_T27 (rd_L3 y287 x16_1) x22_2).f0))).setCell ⟨gb293, 1, none⟩ (.string ((rd_T27 (rd_L3 y287 x16_1) x22_2).f1))).heap[gb280]? = some (.cells #[.string a1_0, .string a1_1] 27 (0, 0))) := ⟨by (with_reducible repeat (first | refine blk_drewN ?_ _ | refine blk_drew ?_ | refine blk_alloc ?_ _)); refine blk_far ?_ NB280_293.out _; (with_reducible repeat (first | refine blk_drewN ?_ _ | refine blk_drew ?_ | refine blk_alloc ?_ _)); refine blk_far ?_ NB280_293.out _; (with_reducible repeat (first | refine blk_drewN ?_ _ | refine blk_drew ?_ | refine blk_alloc ?_ _)); exact BK280.out⟩
                 have n2_ : Aside0 (((w28.setCell ⟨gb293, 0, none⟩ (.string ((rd_T27 (rd_L3 y287 x16_1) x22_2).f0))).setCell ⟨gb293, 1, none⟩ (.string ((rd_T27 (rd_L3 y287 x16_1) x22_2).f1))).heap[gb293]? = some (.cells #[.string ((rd_T27 (rd_L3 y287 x16_1) x22_2).f0), .string ((rd_T27 (rd_L3 y287 x16_1) x22_2).f1)] 27 (0, 0))) := ⟨by (with_reducible repeat (first | refine blk_drewN ?_ _ | refine blk_drew ?_ | refine blk_alloc ?_ _)); refine blk_put (cs := #[.string ((rd_T27 (rd_L3 y287 x16_1) x22_2).f0), .string (⟨#[]⟩ : ByteArray)]) ?_ 1 _ rfl; (with_reducible repeat (first | refine blk_drewN ?_ _ | refine blk_drew ?_ | refine blk_alloc ?_ _)); refine blk_put (cs := #[.string (⟨#[]⟩ : ByteArray), .string (⟨#[]⟩ : ByteArray)]) ?_ 0 _ rfl; (with_reducible repeat (first | refine blk_drewN ?_ _ | refine blk_drew ?_ | refine blk_alloc ?_ _)); exact BK293.out⟩
                 have n3_ : Aside0 (Below w.heap.size w ((w28.setCell ⟨gb293, 0, none⟩ (.string ((rd_T27 (rd_L3 y287 x16_1) x22_2).f0))).setCell ⟨gb293, 1, none⟩ (.string ((rd_T27 (rd_L3 y287 x16_1) x22_2).f1)))) := ⟨by repeat (first | (with_reducible first | exact HB.out | apply below_alloc | apply pw_below_drewN | apply below_drew1 | refine below_set ?_ GE280.out | refine below_set ?_ GE293.out) | exact HB.out)⟩
                 have nX_ : Aside0 (Below WX.heap.size WX ((w28.setCell ⟨gb293, 0, none⟩ (.string ((rd_T27 (rd_L3 y287 x16_1) x22_2).f0))).setCell ⟨gb293, 1, none⟩ (.string ((rd_T27 (rd_L3 y287 x16_1) x22_2).f1)))) := ⟨by repeat (first | (with_reducible first | exact HBX.out | apply below_alloc | apply pw_below_drewN | apply below_drew1 | refine below_set ?_ GEX280.out | refine below_set ?_ GEX293.out) | exact HBX.out)⟩
                 (try clear HO_14)
                 (try clear BK280)
                 (try clear BK293)
                 (try clear HB)
                 generalize ((w28.setCell ⟨gb293, 0, none⟩ (.string ((rd_T27 (rd_L3 y287 x16_1) x22_2).f0))).setCell ⟨gb293, 1, none⟩ (.string ((rd_T27 (rd_L3 y287 x16_1) x22_2).f1))) = w31 at n0_ n1_ n2_ n3_ nX_ ⊢
                 have HO_14 := n0_
                 have BK280 := n1_
                 have BK293 := n2_
                 have HB := n3_
                 clear HBX
                 have HBX := nX_
                 clear nX_
                 clear n0_ n1_ n2_ n3_
                 have n0_ := Aside0.mk (Kd.N_drew HO_14.out)
                 have n1_ := Aside0.mk (blk_drew BK280.out)
                 have n2_ := Aside0.mk (blk_drew BK293.out)
                 have n3_ := Aside0.mk (below_drew1 HB.out)
                 have nX_ := Aside0.mk (below_drew1 HBX.out)
                 clear HO_14
                 clear BK280
                 clear BK293
                 clear HB
                 have HO_14 := n0_
                 have BK280 := n1_
                 have BK293 := n2_
                 have HB := n3_
                 clear HBX
                 have HBX := nX_
                 clear nX_
                 clear n0_ n1_ n2_ n3_
                 have p295 : 0 ≤ ((ji23) : Int) := of_decide_eq_true (by first | (with_reducible assumption) | assumption)
                 have q295 : (ji23) < ((rd_L3 y287 x16_1).length : Int) := of_decide_eq_true (by first | (with_reducible assumption) | assumption)
                 obtain ⟨ad295, e295, hx295_0, hx295_1⟩ := at_T27 HR291_0.out (ji23) p295 q295
                 have hw295_1 := hx295_1
                 have hw295_0 := hx295_0
                 obtain rfl : ad292 = ad295 := (by injection e295)
                 replace hx295_0 := (HBX.out.cell (World.block_lt_of_cell? _ _ hx295_0)).trans hx295_0
                 replace hx295_1 := (HBX.out.cell (World.block_lt_of_cell? _ _ hx295_1)).trans hx295_1
                 replace p295 := eq_true p295
                 replace q295 := eq_true q295
                 have p296 : 0 ≤ ((ji23) : Int) := of_decide_eq_true (by first | (with_reducible assumption) | assumption)
                 have q296 : (ji23) < ((rd_L3 y287 x16_1).length : Int) := of_decide_eq_true (by first | (with_reducible assumption) | assumption)
                 obtain ⟨ad296, e296, hx296_0, hx296_1⟩ := at_T27 HR291_0.out (ji23) p296 q296
                 have hw296_1 := hx296_1
                 have hw296_0 := hx296_0
                 obtain rfl : ad292 = ad296 := (by injection e296)
                 replace hx296_0 := (HBX.out.cell (World.block_lt_of_cell? _ _ hx296_0)).trans hx296_0
                 replace hx296_1 := (HBX.out.cell (World.block_lt_of_cell? _ _ hx296_1)).trans hx296_1
                 replace p296 := eq_true p296
                 replace q296 := eq_true q296
                 refine start_ (n := 26) (S := fun w' => w'.cell? ⟨gb293, 0, none⟩ = some (.string ((rd_T27 (rd_L3 y287 x16_1) x22_2).f0)) ∧ w'.cell? ⟨gb293, 1, none⟩ = some (.string ((rd_T27 (rd_L3 y287 x16_1) x22_2).f1)) ∧ w'.cell? (ad292.add (((ji23)).toNat * 2)) = some (.string ((rd_T27 (rd_L3 y287 x16_1) (ji23)).f0)) ∧ w'.cell? ⟨(ad292.add (((ji23)).toNat * 2)).block, (ad292.add (((ji23)).toNat * 2)).off + 1, none⟩ = some (.string ((rd_T27 (rd_L3 y287 x16_1) (ji23)).f1)) ∧ w'.cell? (ad292.add (((ji23)).toNat * 2)) = some (.string ((rd_T27 (rd_L3 y287 x16_1) (ji23)).f0)) ∧ w'.cell? ⟨(ad292.add (((ji23)).toNat * 2)).block, (ad292.add (((ji23)).toNat * 2)).off + 1, none⟩ = some (.string ((rd_T27 (rd_L3 y287 x16_1) (ji23)).f1))) (ds := []) #[false, false, false, false, false, false, false, false, false, false, false, false, false, false, false, false, false, false, false, false, false, false, false, false, false, false] (by kernel_rfl) rfl rfl ⟨(blk_cell BK293.out 0).trans rfl, (blk_cell BK293.out 1).trans rfl, ((HBX.out.cell (World.block_lt_of_cell? _ _ hw295_0)).trans hw295_0), ((HBX.out.cell (World.block_lt_of_cell? _ _ hw295_1)).trans hw295_1), ((HBX.out.cell (World.block_lt_of_cell? _ _ hw296_0)).trans hw296_0), ((HBX.out.cell (World.block_lt_of_cell? _ _ hw296_1)).trans hw296_1)⟩ (fun hHeld => ?_); refine with_tabW cressetlaw05_KeysFew.tab7 cressetlaw05_KeysFew.bits7 (fun HT_ HW_ => ?_)
                 generalize w31.drew = w32 at HO_14 BK280 BK293 HB HBX hx295_0 hx295_1 hx296_0 hx296_1 hHeld ⊢
                 refine take_ (i := 0) (N := some 27) (v := ?_) (a' := ?_) #[true, false, false, false, false, false, false, false, false, false, false, false, false, false, false, false, false, false, false, false, false, false, false, false, false, false] rfl rfl (take_ofW HT_.out HW_.out (by kernel_rfl)) (fun _ _ _ h => h) (Or.inl ⟨by rfl, ?_⟩) hHeld ?_ ?_
                 rotate_left
                 ·
                  rintro w' ⟨s0, s1, s2, s3, s4, s5⟩
                  go_simp
                  with_reducible rfl
                 rotate_left
                 ·
                  simp only [Act.put, List.setIfInBounds_toArray, List.set_cons_zero, List.set_cons_succ, i64_w, i32_w]
                  rfl
                 refine one_ (i := 1) (N := some 28) #[true, true, false, false, false, false, false, false, false, false, false, false, false, false, false, false, false, false, false, false, false, false, false, false, false, false] rfl rfl (one_of HT_.out (by kernel_rfl)) (by decide) (fun K hK => ?_)
                 refine goes_ Try.func21 (by kernel_rfl) rfl #[.agg #[.string ((rd_T27 (rd_L3 y287 x16_1) x22_2).f0), .string ((rd_T27 (rd_L3 y287 x16_1) x22_2).f1)]] (by rfl) rfl rfl (by (try simp only [List.map_toArray, List.map_cons, List.map_nil]); first | done | rfl | (simp only [List.length_drop, List.length_take]; rfl)) ?_
                 with_reducible refine (keys_Empty.calls ((rd_T27 (rd_L3 y287 x16_1) x22_2).f0) ((rd_T27 (rd_L3 y287 x16_1) x22_2).f1) false _ A20.out).mono ?_
                 rintro e w33 ⟨rfl, hb⟩
                 refine ⟨_, rfl, ?_⟩
                 have n0_ := Aside0.mk (Kd.N_below (by (with_reducible repeat (first | apply Kd.N_alloc | apply Kd.N_drewN | apply Kd.N_drew)); exact HO_14.out) hb)
                 have n1_ := Aside0.mk (blk_below (g := gb280) (o := .cells #[.string a1_0, .string a1_1] 27 (0, 0)) (by (with_reducible repeat (first | refine blk_drewN ?_ _ | refine blk_drew ?_ | refine blk_alloc ?_ _)); exact BK280.out) hb)
                 have n2_ := Aside0.mk (blk_below (g := gb293) (o := .cells #[.string ((rd_T27 (rd_L3 y287 x16_1) x22_2).f0), .string ((rd_T27 (rd_L3 y287 x16_1) x22_2).f1)] 27 (0, 0)) (by (with_reducible repeat (first | refine blk_drewN ?_ _ | refine blk_drew ?_ | refine blk_alloc ?_ _)); exact BK293.out) hb)
                 have n3_ := Aside0.mk (below_step (by repeat (first | (with_reducible first | exact HB.out | apply below_alloc | apply pw_below_drewN | apply below_drew1 | refine below_set ?_ GE280.out | refine below_set ?_ GE293.out) | exact HB.out)) hb)
                 have nX_ := Aside0.mk (below_step (by repeat (first | (with_reducible first | exact HBX.out | apply below_alloc | apply pw_below_drewN | apply below_drew1 | refine below_set ?_ GEX280.out | refine below_set ?_ GEX293.out) | exact HBX.out)) hb)
                 clear HO_14
                 clear BK280
                 clear BK293
                 clear HB
                 have HO_14 := n0_
                 have BK280 := n1_
                 have BK293 := n2_
                 have HB := n3_
                 clear HBX
                 have HBX := nX_
                 clear nX_
                 clear n0_ n1_ n2_ n3_
                 (try clear hb)
                 (try clear hb2)
                 (try clear hk)
                 (try clear hi)
                 refine hK.out _ _ ⟨(blk_cell BK293.out 0).trans rfl, (blk_cell BK293.out 1).trans rfl, ((HBX.out.cell (World.block_lt_of_cell? _ _ hw295_0)).trans hw295_0), ((HBX.out.cell (World.block_lt_of_cell? _ _ hw295_1)).trans hw295_1), ((HBX.out.cell (World.block_lt_of_cell? _ _ hw296_0)).trans hw296_0), ((HBX.out.cell (World.block_lt_of_cell? _ _ hw296_1)).trans hw296_1)⟩ (fun hHeld => ?_)
                 clear hK K
                 refine norm_ (a' := ?_) ?_ ?_
                 rotate_left
                 ·
                  show Act.put _ (some 28) _ = _
                  simp only [Act.put, List.setIfInBounds_toArray, List.set_cons_zero, List.set_cons_succ, i64_w, i32_w]
                  rfl
                 refine pure_ (i := 2) (N := some 29) (v := ?_) (a' := ?_) #[true, true, true, false, false, false, false, false, false, false, false, false, false, false, false, false, false, false, false, false, false, false, false, false, false, false] rfl rfl (any_of HT_.out (by kernel_rfl)) (fun _ _ _ h => h) (Or.inl ⟨by rfl, ?_⟩) ?_ ?_
                 rotate_left
                 ·
                  intro w'
                  go_simp
                  with_reducible rfl
                 rotate_left
                 ·
                  simp only [Act.put, List.setIfInBounds_toArray, List.set_cons_zero, List.set_cons_succ, i64_w, i32_w]
                  rfl
                 refine pure_ (i := 3) (N := some 30) (v := ?_) (a' := ?_) #[true, true, true, true, false, false, false, false, false, false, false, false, false, false, false, false, false, false, false, false, false, false, false, false, false, false] rfl rfl (any_of HT_.out (by kernel_rfl)) (fun _ _ _ h => h) (Or.inl ⟨by rfl, ?_⟩) ?_ ?_
                 rotate_left
                 ·
                  intro w'
                  go_simp
                  with_reducible rfl
                 rotate_left
                 ·
                  simp only [Act.put, List.setIfInBounds_toArray, List.set_cons_zero, List.set_cons_succ, i64_w, i32_w]
                  rfl
                 refine pure_ (i := 4) (N := some 31) (v := ?_) (a' := ?_) #[true, true, true, true, true, false, false, false, false, false, false, false, false, false, false, false, false, false, false, false, false, false, false, false, false, false] rfl rfl (any_of HT_.out (by kernel_rfl)) (fun _ _ _ h => h) (Or.inl ⟨by rfl, ?_⟩) ?_ ?_
                 rotate_left
                 ·
                  intro w'
                  go_simp
                  with_reducible rfl
                 rotate_left
                 ·
                  simp only [Act.put, List.setIfInBounds_toArray, List.set_cons_zero, List.set_cons_succ, i64_w, i32_w]
                  rfl
                 refine pure_ (i := 5) (N := some 32) (v := ?_) (a' := ?_) #[true, true, true, true, true, true, false, false, false, false, false, false, false, false, false, false, false, false, false, false, false, false, false, false, false, false] rfl rfl (any_of HT_.out (by kernel_rfl)) (fun _ _ _ h => h) (Or.inl ⟨by rfl, ?_⟩) ?_ ?_
                 rotate_left
                 ·
                  intro w'
                  go_simp
                  with_reducible rfl
                 rotate_left
                 ·
                  simp only [Act.put, List.setIfInBounds_toArray, List.set_cons_zero, List.set_cons_succ, i64_w, i32_w]
                  rfl
                 refine pure_ (i := 6) (N := some 33) (v := ?_) (a' := ?_) #[true, true, true, true, true, true, true, false, false, false, false, false, false, false, false, false, false, false, false, false, false, false, false, false, false, false] rfl rfl (any_of HT_.out (by kernel_rfl)) (fun _ _ _ h => h) (Or.inl ⟨by rfl, ?_⟩) ?_ ?_
                 rotate_left
                 ·
                  intro w'
                  go_simp
                  with_reducible rfl
                 rotate_left
                 ·
                  simp only [Act.put, List.setIfInBounds_toArray, List.set_cons_zero, List.set_cons_succ, i64_w, i32_w]
                  rfl
                 refine pure_ (i := 7) (N := some 34) (v := ?_) (a' := ?_) #[true, true, true, true, true, true, true, true, false, false, false, false, false, false, false, false, false, false, false, false, false, false, false, false, false, false] rfl rfl (any_of HT_.out (by kernel_rfl)) (fun _ _ _ h => h) (Or.inl ⟨by rfl, ?_⟩) ?_ ?_
                 rotate_left
                 ·
                  intro w'
                  go_simp
                  with_reducible rfl
                 rotate_left
                 ·
                  simp only [Act.put, List.setIfInBounds_toArray, List.set_cons_zero, List.set_cons_succ, i64_w, i32_w]
                  rfl
                 refine pure_ (i := 8) (N := some 35) (v := ?_) (a' := ?_) #[true, true, true, true, true, true, true, true, true, false, false, false, false, false, false, false, false, false, false, false, false, false, false, false, false, false] rfl rfl (any_of HT_.out (by kernel_rfl)) (fun _ _ _ h => h) (Or.inl ⟨by rfl, ?_⟩) ?_ ?_
                 rotate_left
                 ·
                  intro w'
                  go_simp
                  with_reducible rfl
                 rotate_left
                 ·
                  simp only [Act.put, List.setIfInBounds_toArray, List.set_cons_zero, List.set_cons_succ, i64_w, i32_w]
                  rfl
                 refine pure_ (i := 9) (N := some 36) (v := ?_) (a' := ?_) #[true, true, true, true, true, true, true, true, true, true, false, false, false, false, false, false, false, false, false, false, false, false, false, false, false, false] rfl rfl (any_of HT_.out (by kernel_rfl)) (fun _ _ _ h => h) (Or.inl ⟨by rfl, ?_⟩) ?_ ?_
                 rotate_left
                 ·
                  intro w'
                  go_simp
                  with_reducible rfl
                 rotate_left
                 ·
                  simp only [Act.put, List.setIfInBounds_toArray, List.set_cons_zero, List.set_cons_succ, i64_w, i32_w]
                  rfl
                 refine pure_ (i := 10) (N := some 37) (v := ?_) (a' := ?_) #[true, true, true, true, true, true, true, true, true, true, true, false, false, false, false, false, false, false, false, false, false, false, false, false, false, false] rfl rfl (any_of HT_.out (by kernel_rfl)) (fun _ _ _ h => h) (Or.inl ⟨by rfl, ?_⟩) ?_ ?_
                 rotate_left
                 ·
                  intro w'
                  go_simp
                  with_reducible rfl
                 rotate_left
                 ·
                  simp only [Act.put, List.setIfInBounds_toArray, List.set_cons_zero, List.set_cons_succ, i64_w, i32_w]
                  rfl
                 refine take_ (i := 11) (N := some 38) (v := ?_) (a' := ?_) #[true, true, true, true, true, true, true, true, true, true, true, true, false, false, false, false, false, false, false, false, false, false, false, false, false, false] rfl rfl (take_ofW HT_.out HW_.out (by kernel_rfl)) (fun _ _ _ h => h) (Or.inl ⟨by rfl, ?_⟩) hHeld ?_ ?_
                 rotate_left
                 ·
                  rintro w' ⟨s0, s1, s2, s3, s4, s5⟩
                  go_simp
                  with_reducible rfl
                 rotate_left
                 ·
                  simp only [Act.put, List.setIfInBounds_toArray, List.set_cons_zero, List.set_cons_succ, i64_w, i32_w]
                  rfl
                 refine pure_ (i := 12) (N := some 39) (v := ?_) (a' := ?_) #[true, true, true, true, true, true, true, true, true, true, true, true, true, false, false, false, false, false, false, false, false, false, false, false, false, false] rfl rfl (any_of HT_.out (by kernel_rfl)) (fun _ _ _ h => h) (Or.inl ⟨by rfl, ?_⟩) ?_ ?_
                 rotate_left
                 ·
                  intro w'
                  go_simp
                  with_reducible rfl
                 rotate_left
                 ·
                  simp only [Act.put, List.setIfInBounds_toArray, List.set_cons_zero, List.set_cons_succ, i64_w, i32_w]
                  rfl
                 refine pure_ (i := 13) (N := some 40) (v := ?_) (a' := ?_) #[true, true, true, true, true, true, true, true, true, true, true, true, true, true, false, false, false, false, false, false, false, false, false, false, false, false] rfl rfl (any_of HT_.out (by kernel_rfl)) (fun _ _ _ h => h) (Or.inl ⟨by rfl, ?_⟩) ?_ ?_
                 rotate_left
                 ·
                  intro w'
                  go_simp
                  with_reducible rfl
                 rotate_left
                 ·
                  simp only [Act.put, List.setIfInBounds_toArray, List.set_cons_zero, List.set_cons_succ, i64_w, i32_w]
                  rfl
                 refine pure_ (i := 14) (N := some 41) (v := ?_) (a' := ?_) #[true, true, true, true, true, true, true, true, true, true, true, true, true, true, true, false, false, false, false, false, false, false, false, false, false, false] rfl rfl (any_of HT_.out (by kernel_rfl)) (fun _ _ _ h => h) (Or.inl ⟨by rfl, ?_⟩) ?_ ?_
                 rotate_left
                 ·
                  intro w'
                  go_simp
                  with_reducible rfl
                 rotate_left
                 ·
                  simp only [Act.put, List.setIfInBounds_toArray, List.set_cons_zero, List.set_cons_succ, i64_w, i32_w]
                  rfl
                 refine pure_ (i := 15) (N := some 42) (v := ?_) (a' := ?_) #[true, true, true, true, true, true, true, true, true, true, true, true, true, true, true, true, false, false, false, false, false, false, false, false, false, false] rfl rfl (any_of HT_.out (by kernel_rfl)) (fun _ _ _ h => h) (Or.inl ⟨by rfl, ?_⟩) ?_ ?_
                 rotate_left
                 ·
                  intro w'
                  go_simp
                  with_reducible rfl
                 rotate_left
                 ·
                  simp only [Act.put, List.setIfInBounds_toArray, List.set_cons_zero, List.set_cons_succ, i64_w, i32_w]
                  rfl
                 refine pure_ (i := 16) (N := some 43) (v := ?_) (a' := ?_) #[true, true, true, true, true, true, true, true, true, true, true, true, true, true, true, true, true, false, false, false, false, false, false, false, false, false] rfl rfl (any_of HT_.out (by kernel_rfl)) (fun _ _ _ h => h) (Or.inl ⟨by rfl, ?_⟩) ?_ ?_
                 rotate_left
                 ·
                  intro w'
                  go_simp
                  with_reducible rfl
                 rotate_left
                 ·
                  simp only [Act.put, List.setIfInBounds_toArray, List.set_cons_zero, List.set_cons_succ, i64_w, i32_w]
                  rfl
                 refine pure_ (i := 17) (N := some 44) (v := ?_) (a' := ?_) #[true, true, true, true, true, true, true, true, true, true, true, true, true, true, true, true, true, true, false, false, false, false, false, false, false, false] rfl rfl (any_of HT_.out (by kernel_rfl)) (fun _ _ _ h => h) (Or.inl ⟨by rfl, ?_⟩) ?_ ?_
                 rotate_left
                 ·
                  intro w'
                  go_simp
                  with_reducible rfl
                 rotate_left
                 ·
                  simp only [Act.put, List.setIfInBounds_toArray, List.set_cons_zero, List.set_cons_succ, i64_w, i32_w]
                  rfl
                 refine pure_ (i := 18) (N := some 45) (v := ?_) (a' := ?_) #[true, true, true, true, true, true, true, true, true, true, true, true, true, true, true, true, true, true, true, false, false, false, false, false, false, false] rfl rfl (any_of HT_.out (by kernel_rfl)) (fun _ _ _ h => h) (Or.inl ⟨by rfl, ?_⟩) ?_ ?_
                 rotate_left
                 ·
                  intro w'
                  go_simp
                  with_reducible rfl
                 rotate_left
                 ·
                  simp only [Act.put, List.setIfInBounds_toArray, List.set_cons_zero, List.set_cons_succ, i64_w, i32_w]
                  rfl
                 refine pure_ (i := 20) (N := some 47) (v := ?_) (a' := ?_) #[true, true, true, true, true, true, true, true, true, true, true, true, true, true, true, true, true, true, true, false, true, false, false, false, false, false] rfl rfl (any_of HT_.out (by kernel_rfl)) (fun _ _ _ h => h) (Or.inl ⟨by rfl, ?_⟩) ?_ ?_
                 rotate_left
                 ·
                  intro w'
                  go_simp
                  with_reducible rfl
                 rotate_left
                 ·
                  simp only [Act.put, List.setIfInBounds_toArray, List.set_cons_zero, List.set_cons_succ, i64_w, i32_w]
                  rfl
                 refine take_ (i := 19) (N := some 46) (v := ?_) (a' := ?_) #[true, true, true, true, true, true, true, true, true, true, true, true, true, true, true, true, true, true, true, true, true, false, false, false, false, false] rfl rfl (take_ofW HT_.out HW_.out (by kernel_rfl)) (fun _ _ _ h => h) (Or.inl ⟨by rfl, ?_⟩) hHeld ?_ ?_
                 rotate_left
                 ·
                  rintro w' ⟨s0, s1, s2, s3, s4, s5⟩
                  go_simp
                  with_reducible rfl
                 rotate_left
                 ·
                  simp only [Act.put, List.setIfInBounds_toArray, List.set_cons_zero, List.set_cons_succ, i64_w, i32_w]
                  rfl
                 refine take_ (i := 21) (N := some 48) (v := ?_) (a' := ?_) #[true, true, true, true, true, true, true, true, true, true, true, true, true, true, true, true, true, true, true, true, true, true, false, false, false, false] rfl rfl (take_ofW HT_.out HW_.out (by kernel_rfl)) (fun _ _ _ h => h) (Or.inl ⟨by rfl, ?_⟩) hHeld ?_ ?_
                 rotate_left
                 ·
                  rintro w' ⟨s0, s1, s2, s3, s4, s5⟩
                  go_simp
                  with_reducible rfl
                 rotate_left
                 ·
                  simp only [Act.put, List.setIfInBounds_toArray, List.set_cons_zero, List.set_cons_succ, i64_w, i32_w]
                  rfl
                 refine pure_ (i := 22) (N := some 49) (v := ?_) (a' := ?_) #[true, true, true, true, true, true, true, true, true, true, true, true, true, true, true, true, true, true, true, true, true, true, true, false, false, false] rfl rfl (any_of HT_.out (by kernel_rfl)) (fun _ _ _ h => h) (Or.inl ⟨by rfl, ?_⟩) ?_ ?_
                 rotate_left
                 ·
                  intro w'
                  go_simp
                  with_reducible rfl
                 rotate_left
                 ·
                  simp only [Act.put, List.setIfInBounds_toArray, List.set_cons_zero, List.set_cons_succ, i64_w, i32_w]
                  rfl
                 refine pure_ (i := 23) (N := some 50) (v := ?_) (a' := ?_) #[true, true, true, true, true, true, true, true, true, true, true, true, true, true, true, true, true, true, true, true, true, true, true, true, false, false] rfl rfl (any_of HT_.out (by kernel_rfl)) (fun _ _ _ h => h) (Or.inl ⟨by rfl, ?_⟩) ?_ ?_
                 rotate_left
                 ·
                  intro w'
                  go_simp
                  with_reducible rfl
                 rotate_left
                 ·
                  simp only [Act.put, List.setIfInBounds_toArray, List.set_cons_zero, List.set_cons_succ, i64_w, i32_w]
                  rfl
                 refine pure_ (i := 24) (N := some 51) (v := ?_) (a' := ?_) #[true, true, true, true, true, true, true, true, true, true, true, true, true, true, true, true, true, true, true, true, true, true, true, true, true, false] rfl rfl (any_of HT_.out (by kernel_rfl)) (fun _ _ _ h => h) (Or.inl ⟨by rfl, ?_⟩) ?_ ?_
                 rotate_left
                 ·
                  intro w'
                  go_simp
                  with_reducible rfl
                 rotate_left
                 ·
                  simp only [Act.put, List.setIfInBounds_toArray, List.set_cons_zero, List.set_cons_succ, i64_w, i32_w]
                  rfl
                 refine pure_ (i := 25) (N := some 52) (v := ?_) (a' := ?_) #[true, true, true, true, true, true, true, true, true, true, true, true, true, true, true, true, true, true, true, true, true, true, true, true, true, true] rfl rfl (any_of HT_.out (by kernel_rfl)) (fun _ _ _ h => h) (Or.inl ⟨by rfl, ?_⟩) ?_ ?_
                 rotate_left
                 ·
                  intro w'
                  go_simp
                  with_reducible rfl
                 rotate_left
                 ·
                  simp only [Act.put, List.setIfInBounds_toArray, List.set_cons_zero, List.set_cons_succ, i64_w, i32_w]
                  rfl
                 refine done_ (done_of HT_.out (by kernel_rfl)) ?_
                 try go_wp2
                 go_roundg k2
                 case measure => have := HK1.out; have := HK2.out; omega
                 case rel => exact ⟨(wrap64 (x22_2 + 1)), (by first | rfl | (simp; done) | (simp [*]; done)), H', ⟨by have := HK1.out; have := HK2.out; omega⟩, ⟨by (with_reducible repeat (first | apply Kd.N_alloc | apply Kd.N_drewN | apply Kd.N_drew)); exact Kd.N_mono HO_14.out (fun _ hk => hk.1)⟩, ⟨by (with_reducible repeat (first | refine blk_drewN ?_ _ | refine blk_drew ?_ | refine blk_alloc ?_ _)); exact BK280.out⟩, ⟨by repeat (first | (with_reducible first | exact HB.out | apply below_alloc | apply pw_below_drewN | apply below_drew1 | refine below_set ?_ GE280.out | refine below_set ?_ GE293.out) | exact HB.out)⟩, ⟨by repeat (first | (with_reducible first | exact HBX.out | apply below_alloc | apply pw_below_drewN | apply below_drew1 | refine below_set ?_ GEX280.out | refine below_set ?_ GEX293.out) | exact HBX.out)⟩⟩
                ·
                 rw [if_neg c27] at H
                 have c27b0 : (Op.bytesLess (((rd_T27 (rd_L3 y287 x16_1) (ji23)).f1).toList) (((rd_T27 (rd_L3 y287 x16_1) x22_2).f0).toList)) = false := by simpa using c27
                 clear c27
                 exact absurd H (by simp)
              ·
               rw [if_neg c25] at H
               exact absurd H (by simp)
             ·
              rw [if_neg c24] at H
              exact absurd H (by simp)
            ·
             rw [if_neg c22] at H
             have c22b0 : decide (0 < x22_2) = false := decide_eq_false c22
             clear c22
             have H' := Aside0.mk H
             clear H
             have p292 : 0 ≤ (x22_2 : Int) := of_decide_eq_true (by first | (with_reducible assumption) | assumption)
             have q292 : x22_2 < ((rd_L3 y287 x16_1).length : Int) := of_decide_eq_true (by first | (with_reducible assumption) | assumption)
             obtain ⟨ad292, e292, hx292_0, hx292_1⟩ := at_T27 HR291_0.out x22_2 p292 q292
             cases e292
             replace hx292_0 := (HBX.out.cell (World.block_lt_of_cell? _ _ hx292_0)).trans hx292_0
             replace hx292_1 := (HBX.out.cell (World.block_lt_of_cell? _ _ hx292_1)).trans hx292_1
             replace p292 := eq_true p292
             replace q292 := eq_true q292
             try go_wp2_with (first | ((with_reducible refine gate_dst (N := 8) rfl ?_); refine box_event ?hg (N := 8) ?hd (cs := #[.string (⟨#[]⟩ : ByteArray), .string (⟨#[]⟩ : ByteArray)]) (t := 27) ?hr ?_; (case hd => rfl); (case hg => rfl); (case hr => first | (go_simp; done) | (go_simp; rfl)); intro gb293 hg w34 hbox hb; have GEX293 := Aside0.mk (by rw [hg]; exact below_size (by repeat (first | exact HBX.out | apply below_alloc | apply pw_below_drewN | apply below_drew1)) : WX.heap.size ≤ gb293); have n0_ := Aside0.mk (Kd.N_below (Kd.N_elderB (by (with_reducible repeat (first | apply Kd.N_alloc | apply Kd.N_drewN | apply Kd.N_drew)); exact HO_14.out) gb293 (Nat.le_of_eq hg.symm)) hb); have n1_ := Aside0.mk (blk_below (g := gb280) (o := .cells #[.string a1_0, .string a1_1] 27 (0, 0)) (by (with_reducible repeat (first | refine blk_drewN ?_ _ | refine blk_drew ?_ | refine blk_alloc ?_ _)); exact BK280.out) hb); have mx_ := Aside0.mk (below_step (by repeat (first | (with_reducible first | exact HBX.out | apply below_alloc | apply pw_below_drewN | apply below_drew1 | refine below_set ?_ GEX280.out) | exact HBX.out)) hb); clear HBX; have HBX := mx_; clear mx_; have n2_ := Aside0.mk (below_step (by repeat (first | (with_reducible first | exact HB.out | apply below_alloc | apply pw_below_drewN | apply below_drew1 | refine below_set ?_ GE280.out) | exact HB.out)) hb); have n3_ := Aside0.mk (hbox); have n4_ := Aside0.mk ((by rw [hg]; exact (below_size (by repeat (first | (with_reducible first | exact HB.out | apply below_alloc | apply pw_below_drewN | apply below_drew1 | refine below_set ?_ GE280.out) | exact HB.out))) : w.heap.size ≤ gb293)); have n5_ := Aside0.mk ((by rw [hg]; exact (below_size (by repeat (first | (with_reducible first | exact HB.out | apply below_alloc | apply pw_below_drewN | apply below_drew1 | refine below_set ?_ GE280.out) | exact HB.out))) : w.heap.size ≤ gb293)); have n6_ := Aside0.mk ((by rw [hg]; exact Nat.ne_of_lt (blk_lt (g := gb280) (o := .cells #[.string a1_0, .string a1_1] 27 (0, 0)) (by (with_reducible repeat (first | refine blk_drewN ?_ _ | refine blk_drew ?_ | refine blk_alloc ?_ _)); exact BK280.out)) : gb280 ≠ gb293)); have n7_ := Aside0.mk ((by rw [hg]; exact Nat.ne_of_gt (blk_lt (g := gb280) (o := .cells #[.string a1_0, .string a1_1] 27 (0, 0)) (by (with_reducible repeat (first | refine blk_drewN ?_ _ | refine blk_drew ?_ | refine blk_alloc ?_ _)); exact BK280.out)) : gb293 ≠ gb280)); clear HO_14; clear BK280; clear HB; have HO_14 := n0_; have BK280 := n1_; have HB := n2_; have BK293 := n3_; have GW293 := n4_; have GE293 := n5_; have NB280_293 := n6_; have NB293_280 := n7_; clear n0_ n1_ n2_ n3_ n4_ n5_ n6_ n7_; clear hb hbox hg; have hnb35 := NB293_280.out; have hnc35 := NB280_293.out; have hcz36_0 : w34.cell? ⟨gb293, 0, none⟩ = some (.string (⟨#[]⟩ : ByteArray)) := (blk_cell BK293.out 0).trans rfl; have hcz36_1 : w34.cell? ⟨gb293, 1, none⟩ = some (.string (⟨#[]⟩ : ByteArray)) := (blk_cell BK293.out 1).trans rfl; have hfz36_0 := blk_frozen BK293.out 0; have hfz36_1 := blk_frozen BK293.out 1))
             have n0_ : Aside0 (Kd.N (Kd.slice 27 k27) 36 ((w34.setCell ⟨gb293, 0, none⟩ (.string ((rd_T27 (rd_L3 y287 x16_1) x22_2).f0))).setCell ⟨gb293, 1, none⟩ (.string ((rd_T27 (rd_L3 y287 x16_1) x22_2).f1))) w.heap.size (fun k_ => k_ ≠ gb280 ∧ k_ ≠ gb293) (.slice (some ad291) y287.length co13) y287) := ⟨by (with_reducible repeat (first | apply Kd.N_alloc | apply Kd.N_drewN | apply Kd.N_drew)); exact Kd.N_mono (Kd.N_far (p := ⟨gb293, 1, none⟩) (Kd.N_far (p := ⟨gb293, 0, none⟩) (Kd.N_mono HO_14.out (fun k_ hk => (⟨hk, hk.2⟩ : _ ∧ k_ ≠ gb293))) (fun _ hk => hk.2) (.string ((rd_T27 (rd_L3 y287 x16_1) x22_2).f0))) (fun _ hk => hk.2) (.string ((rd_T27 (rd_L3 y287 x16_1) x22_2).f1))) (fun _ hk => ⟨hk.1.1, hk.1.2⟩)⟩
             have n1_ : Aside0 (((w34.setCell ⟨gb293, 0, none⟩ (.string ((rd_T27 (rd_L3 y287 x16_1) x22_2).f0))).setCell ⟨gb293, 1, none⟩ (.string ((rd_T27 (rd_L3 y287 x16_1) x22_2).f1))).heap[gb280]? = some (.cells #[.string a1_0, .string a1_1] 27 (0, 0))) := ⟨by (with_reducible repeat (first | refine blk_drewN ?_ _ | refine blk_drew ?_ | refine blk_alloc ?_ _)); refine blk_far ?_ NB280_293.out _; (with_reducible repeat (first | refine blk_drewN ?_ _ | refine blk_drew ?_ | refine blk_alloc ?_ _)); refine blk_far ?_ NB280_293.out _; (with_reducible repeat (first | refine blk_drewN ?_ _ | refine blk_drew ?_ | refine blk_alloc ?_ _)); exact BK280.out⟩
             have n2_ : Aside0 (((w34.setCell ⟨gb293, 0, none⟩ (.string ((rd_T27 (rd_L3 y287 x16_1) x22_2).f0))).setCell ⟨gb293, 1, none⟩ (.string ((rd_T27 (rd_L3 y287 x16_1) x22_2).f1))).heap[gb293]? = some (.cells #[.string ((rd_T27 (rd_L3 y287 x16_1) x22_2).f0), .string ((rd_T27 (rd_L3 y287 x16_1) x22_2).f1)] 27 (0, 0))) := ⟨by (with_reducible repeat (first | refine blk_drewN ?_ _ | refine blk_drew ?_ | refine blk_alloc ?_ _)); refine blk_put (cs := #[.string ((rd_T27 (rd_L3 y287 x16_1) x22_2).f0), .string (⟨#[]⟩ : ByteArray)]) ?_ 1 _ rfl; (with_reducible repeat (first | refine blk_drewN ?_ _ | refine blk_drew ?_ | refine blk_alloc ?_ _)); refine blk_put (cs := #[.string (⟨#[]⟩ : ByteArray), .string (⟨#[]⟩ : ByteArray)]) ?_ 0 _ rfl; (with_reducible repeat (first | refine blk_drewN ?_ _ | refine blk_drew ?_ | refine blk_alloc ?_ _)); exact BK293.out⟩
             have n3_ : Aside0 (Below w.heap.size w ((w34.setCell ⟨gb293, 0, none⟩ (.string ((rd_T27 (rd_L3 y287 x16_1) x22_2).f0))).setCell ⟨gb293, 1, none⟩ (.string ((rd_T27 (rd_L3 y287 x16_1) x22_2).f1)))) := ⟨by repeat (first | (with_reducible first | exact HB.out | apply below_alloc | apply pw_below_drewN | apply below_drew1 | refine below_set ?_ GE280.out | refine below_set ?_ GE293.out) | exact HB.out)⟩
             have nX_ : Aside0 (Below WX.heap.size WX ((w34.setCell ⟨gb293, 0, none⟩ (.string ((rd_T27 (rd_L3 y287 x16_1) x22_2).f0))).setCell ⟨gb293, 1, none⟩ (.string ((rd_T27 (rd_L3 y287 x16_1) x22_2).f1)))) := ⟨by repeat (first | (with_reducible first | exact HBX.out | apply below_alloc | apply pw_below_drewN | apply below_drew1 | refine below_set ?_ GEX280.out | refine below_set ?_ GEX293.out) | exact HBX.out)⟩
             (try clear HO_14)
             (try clear BK280)
             (try clear BK293)
             (try clear HB)
             generalize ((w34.setCell ⟨gb293, 0, none⟩ (.string ((rd_T27 (rd_L3 y287 x16_1) x22_2).f0))).setCell ⟨gb293, 1, none⟩ (.string ((rd_T27 (rd_L3 y287 x16_1) x22_2).f1))) = w37 at n0_ n1_ n2_ n3_ nX_ ⊢
             have HO_14 := n0_
             have BK280 := n1_
             have BK293 := n2_
             have HB := n3_
             clear HBX
             have HBX := nX_
             clear nX_
             clear n0_ n1_ n2_ n3_
             have n0_ := Aside0.mk (Kd.N_drew HO_14.out)
             have n1_ := Aside0.mk (blk_drew BK280.out)
             have n2_ := Aside0.mk (blk_drew BK293.out)
             have n3_ := Aside0.mk (below_drew1 HB.out)
             have nX_ := Aside0.mk (below_drew1 HBX.out)
             clear HO_14
             clear BK280
             clear BK293
             clear HB
             have HO_14 := n0_
             have BK280 := n1_
             have BK293 := n2_
             have HB := n3_
             clear HBX
             have HBX := nX_
             clear nX_
             clear n0_ n1_ n2_ n3_
             refine start_ (n := 26) (S := fun w' => w'.cell? ⟨gb293, 0, none⟩ = some (.string ((rd_T27 (rd_L3 y287 x16_1) x22_2).f0)) ∧ w'.cell? ⟨gb293, 1, none⟩ = some (.string ((rd_T27 (rd_L3 y287 x16_1) x22_2).f1))) (ds := []) #[false, false, false, false, false, false, false, false, false, false, false, false, false, false, false, false, false, false, false, false, false, false, false, false, false, false] (by kernel_rfl) rfl rfl ⟨(blk_cell BK293.out 0).trans rfl, (blk_cell BK293.out 1).trans rfl⟩ (fun hHeld => ?_); refine with_tabW cressetlaw05_KeysFew.tab7 cressetlaw05_KeysFew.bits7 (fun HT_ HW_ => ?_)
             generalize w37.drew = w38 at HO_14 BK280 BK293 HB HBX hHeld ⊢
             refine take_ (i := 0) (N := some 27) (v := ?_) (a' := ?_) #[true, false, false, false, false, false, false, false, false, false, false, false, false, false, false, false, false, false, false, false, false, false, false, false, false, false] rfl rfl (take_ofW HT_.out HW_.out (by kernel_rfl)) (fun _ _ _ h => h) (Or.inl ⟨by rfl, ?_⟩) hHeld ?_ ?_
             rotate_left
             ·
              rintro w' ⟨s0, s1⟩
              go_simp
              with_reducible rfl
             rotate_left
             ·
              simp only [Act.put, List.setIfInBounds_toArray, List.set_cons_zero, List.set_cons_succ, i64_w, i32_w]
              rfl
             refine one_ (i := 1) (N := some 28) #[true, true, false, false, false, false, false, false, false, false, false, false, false, false, false, false, false, false, false, false, false, false, false, false, false, false] rfl rfl (one_of HT_.out (by kernel_rfl)) (by decide) (fun K hK => ?_)
             refine goes_ Try.func21 (by kernel_rfl) rfl #[.agg #[.string ((rd_T27 (rd_L3 y287 x16_1) x22_2).f0), .string ((rd_T27 (rd_L3 y287 x16_1) x22_2).f1)]] (by rfl) rfl rfl (by (try simp only [List.map_toArray, List.map_cons, List.map_nil]); first | done | rfl | (simp only [List.length_drop, List.length_take]; rfl)) ?_
             with_reducible refine (keys_Empty.calls ((rd_T27 (rd_L3 y287 x16_1) x22_2).f0) ((rd_T27 (rd_L3 y287 x16_1) x22_2).f1) false _ A20.out).mono ?_
             rintro e w39 ⟨rfl, hb⟩
             refine ⟨_, rfl, ?_⟩
             have n0_ := Aside0.mk (Kd.N_below (by (with_reducible repeat (first | apply Kd.N_alloc | apply Kd.N_drewN | apply Kd.N_drew)); exact HO_14.out) hb)
             have n1_ := Aside0.mk (blk_below (g := gb280) (o := .cells #[.string a1_0, .string a1_1] 27 (0, 0)) (by (with_reducible repeat (first | refine blk_drewN ?_ _ | refine blk_drew ?_ | refine blk_alloc ?_ _)); exact BK280.out) hb)
             have n2_ := Aside0.mk (blk_below (g := gb293) (o := .cells #[.string ((rd_T27 (rd_L3 y287 x16_1) x22_2).f0), .string ((rd_T27 (rd_L3 y287 x16_1) x22_2).f1)] 27 (0, 0)) (by (with_reducible repeat (first | refine blk_drewN ?_ _ | refine blk_drew ?_ | refine blk_alloc ?_ _)); exact BK293.out) hb)
             have n3_ := Aside0.mk (below_step (by repeat (first | (with_reducible first | exact HB.out | apply below_alloc | apply pw_below_drewN | apply below_drew1 | refine below_set ?_ GE280.out | refine below_set ?_ GE293.out) | exact HB.out)) hb)
             have nX_ := Aside0.mk (below_step (by repeat (first | (with_reducible first | exact HBX.out | apply below_alloc | apply pw_below_drewN | apply below_drew1 | refine below_set ?_ GEX280.out | refine below_set ?_ GEX293.out) | exact HBX.out)) hb)
             clear HO_14
             clear BK280
             clear BK293
             clear HB
             have HO_14 := n0_
             have BK280 := n1_
             have BK293 := n2_
             have HB := n3_
             clear HBX
             have HBX := nX_
             clear nX_
             clear n0_ n1_ n2_ n3_
             (try clear hb)
             (try clear hb2)
             (try clear hk)
             (try clear hi)
             refine hK.out _ _ ⟨(blk_cell BK293.out 0).trans rfl, (blk_cell BK293.out 1).trans rfl⟩ (fun hHeld => ?_)
             clear hK K
             refine norm_ (a' := ?_) ?_ ?_
             rotate_left
             ·
              show Act.put _ (some 28) _ = _
              simp only [Act.put, List.setIfInBounds_toArray, List.set_cons_zero, List.set_cons_succ, i64_w, i32_w]
              rfl
             refine pure_ (i := 2) (N := some 29) (v := ?_) (a' := ?_) #[true, true, true, false, false, false, false, false, false, false, false, false, false, false, false, false, false, false, false, false, false, false, false, false, false, false] rfl rfl (any_of HT_.out (by kernel_rfl)) (fun _ _ _ h => h) (Or.inl ⟨by rfl, ?_⟩) ?_ ?_
             rotate_left
             ·
              intro w'
              go_simp
              with_reducible rfl
             rotate_left
             ·
              simp only [Act.put, List.setIfInBounds_toArray, List.set_cons_zero, List.set_cons_succ, i64_w, i32_w]
              rfl
             refine pure_ (i := 3) (N := some 30) (v := ?_) (a' := ?_) #[true, true, true, true, false, false, false, false, false, false, false, false, false, false, false, false, false, false, false, false, false, false, false, false, false, false] rfl rfl (any_of HT_.out (by kernel_rfl)) (fun _ _ _ h => h) (Or.inl ⟨by rfl, ?_⟩) ?_ ?_
             rotate_left
             ·
              intro w'
              go_simp
              with_reducible rfl
             rotate_left
             ·
              simp only [Act.put, List.setIfInBounds_toArray, List.set_cons_zero, List.set_cons_succ, i64_w, i32_w]
              rfl
             refine pure_ (i := 4) (N := some 31) (v := ?_) (a' := ?_) #[true, true, true, true, true, false, false, false, false, false, false, false, false, false, false, false, false, false, false, false, false, false, false, false, false, false] rfl rfl (any_of HT_.out (by kernel_rfl)) (fun _ _ _ h => h) (Or.inl ⟨by rfl, ?_⟩) ?_ ?_
             rotate_left
             ·
              intro w'
              go_simp
              with_reducible rfl
             rotate_left
             ·
              simp only [Act.put, List.setIfInBounds_toArray, List.set_cons_zero, List.set_cons_succ, i64_w, i32_w]
              rfl
             refine pure_ (i := 5) (N := some 32) (v := ?_) (a' := ?_) #[true, true, true, true, true, true, false, false, false, false, false, false, false, false, false, false, false, false, false, false, false, false, false, false, false, false] rfl rfl (any_of HT_.out (by kernel_rfl)) (fun _ _ _ h => h) (Or.inl ⟨by rfl, ?_⟩) ?_ ?_
             rotate_left
             ·
              intro w'
              go_simp
              with_reducible rfl
             rotate_left
             ·
              simp only [Act.put, List.setIfInBounds_toArray, List.set_cons_zero, List.set_cons_succ, i64_w, i32_w]
              rfl
             refine pure_ (i := 6) (N := some 33) (v := undef) (a' := ?_) #[true, true, true, true, true, true, true, false, false, false, false, false, false, false, false, false, false, false, false, false, false, false, false, false, false, false] rfl rfl (any_of HT_.out (by kernel_rfl)) (fun _ _ _ h => h) (Or.inr ⟨by rfl, rfl⟩) ?_ ?_
             rotate_left
             ·
              simp only [Act.put, List.setIfInBounds_toArray, List.set_cons_zero, List.set_cons_succ, i64_w, i32_w]
              rfl
             refine pure_ (i := 7) (N := some 34) (v := undef) (a' := ?_) #[true, true, true, true, true, true, true, true, false, false, false, false, false, false, false, false, false, false, false, false, false, false, false, false, false, false] rfl rfl (any_of HT_.out (by kernel_rfl)) (fun _ _ _ h => h) (Or.inr ⟨by rfl, rfl⟩) ?_ ?_
             rotate_left
             ·
              simp only [Act.put, List.setIfInBounds_toArray, List.set_cons_zero, List.set_cons_succ, i64_w, i32_w]
              rfl
             refine pure_ (i := 8) (N := some 35) (v := undef) (a' := ?_) #[true, true, true, true, true, true, true, true, true, false, false, false, false, false, false, false, false, false, false, false, false, false, false, false, false, false] rfl rfl (any_of HT_.out (by kernel_rfl)) (fun _ _ _ h => h) (Or.inr ⟨by rfl, rfl⟩) ?_ ?_
             rotate_left
             ·
              simp only [Act.put, List.setIfInBounds_toArray, List.set_cons_zero, List.set_cons_succ, i64_w, i32_w]
              rfl
             refine pure_ (i := 9) (N := some 36) (v := undef) (a' := ?_) #[true, true, true, true, true, true, true, true, true, true, false, false, false, false, false, false, false, false, false, false, false, false, false, false, false, false] rfl rfl (any_of HT_.out (by kernel_rfl)) (fun _ _ _ h => h) (Or.inr ⟨by rfl, rfl⟩) ?_ ?_
             rotate_left
             ·
              simp only [Act.put, List.setIfInBounds_toArray, List.set_cons_zero, List.set_cons_succ, i64_w, i32_w]
              rfl
             refine pure_ (i := 10) (N := some 37) (v := undef) (a' := ?_) #[true, true, true, true, true, true, true, true, true, true, true, false, false, false, false, false, false, false, false, false, false, false, false, false, false, false] rfl rfl (any_of HT_.out (by kernel_rfl)) (fun _ _ _ h => h) (Or.inr ⟨by rfl, rfl⟩) ?_ ?_
             rotate_left
             ·
              simp only [Act.put, List.setIfInBounds_toArray, List.set_cons_zero, List.set_cons_succ, i64_w, i32_w]
              rfl
             refine pure_ (i := 11) (N := some 38) (v := undef) (a' := ?_) #[true, true, true, true, true, true, true, true, true, true, true, true, false, false, false, false, false, false, false, false, false, false, false, false, false, false] rfl rfl (any_of HT_.out (by kernel_rfl)) (fun _ _ _ h => h) (Or.inr ⟨by rfl, rfl⟩) ?_ ?_
             rotate_left
             ·
              simp only [Act.put, List.setIfInBounds_toArray, List.set_cons_zero, List.set_cons_succ, i64_w, i32_w]
              rfl
             refine pure_ (i := 12) (N := some 39) (v := undef) (a' := ?_) #[true, true, true, true, true, true, true, true, true, true, true, true, true, false, false, false, false, false, false, false, false, false, false, false, false, false] rfl rfl (any_of HT_.out (by kernel_rfl)) (fun _ _ _ h => h) (Or.inr ⟨by rfl, rfl⟩) ?_ ?_
             rotate_left
             ·
              simp only [Act.put, List.setIfInBounds_toArray, List.set_cons_zero, List.set_cons_succ, i64_w, i32_w]
              rfl
             refine pure_ (i := 13) (N := some 40) (v := undef) (a' := ?_) #[true, true, true, true, true, true, true, true, true, true, true, true, true, true, false, false, false, false, false, false, false, false, false, false, false, false] rfl rfl (any_of HT_.out (by kernel_rfl)) (fun _ _ _ h => h) (Or.inr ⟨by rfl, rfl⟩) ?_ ?_
             rotate_left
             ·
              simp only [Act.put, List.setIfInBounds_toArray, List.set_cons_zero, List.set_cons_succ, i64_w, i32_w]
              rfl
             refine pure_ (i := 14) (N := some 41) (v := undef) (a' := ?_) #[true, true, true, true, true, true, true, true, true, true, true, true, true, true, true, false, false, false, false, false, false, false, false, false, false, false] rfl rfl (any_of HT_.out (by kernel_rfl)) (fun _ _ _ h => h) (Or.inr ⟨by rfl, rfl⟩) ?_ ?_
             rotate_left
             ·
              simp only [Act.put, List.setIfInBounds_toArray, List.set_cons_zero, List.set_cons_succ, i64_w, i32_w]
              rfl
             refine pure_ (i := 15) (N := some 42) (v := undef) (a' := ?_) #[true, true, true, true, true, true, true, true, true, true, true, true, true, true, true, true, false, false, false, false, false, false, false, false, false, false] rfl rfl (any_of HT_.out (by kernel_rfl)) (fun _ _ _ h => h) (Or.inr ⟨by rfl, rfl⟩) ?_ ?_
             rotate_left
             ·
              simp only [Act.put, List.setIfInBounds_toArray, List.set_cons_zero, List.set_cons_succ, i64_w, i32_w]
              rfl
             refine pure_ (i := 16) (N := some 43) (v := undef) (a' := ?_) #[true, true, true, true, true, true, true, true, true, true, true, true, true, true, true, true, true, false, false, false, false, false, false, false, false, false] rfl rfl (any_of HT_.out (by kernel_rfl)) (fun _ _ _ h => h) (Or.inr ⟨by rfl, rfl⟩) ?_ ?_
             rotate_left
             ·
              simp only [Act.put, List.setIfInBounds_toArray, List.set_cons_zero, List.set_cons_succ, i64_w, i32_w]
              rfl
             refine pure_ (i := 17) (N := some 44) (v := undef) (a' := ?_) #[true, true, true, true, true, true, true, true, true, true, true, true, true, true, true, true, true, true, false, false, false, false, false, false, false, false] rfl rfl (any_of HT_.out (by kernel_rfl)) (fun _ _ _ h => h) (Or.inr ⟨by rfl, rfl⟩) ?_ ?_
             rotate_left
             ·
              simp only [Act.put, List.setIfInBounds_toArray, List.set_cons_zero, List.set_cons_succ, i64_w, i32_w]
              rfl
             refine pure_ (i := 18) (N := some 45) (v := undef) (a' := ?_) #[true, true, true, true, true, true, true, true, true, true, true, true, true, true, true, true, true, true, true, false, false, false, false, false, false, false] rfl rfl (any_of HT_.out (by kernel_rfl)) (fun _ _ _ h => h) (Or.inr ⟨by rfl, rfl⟩) ?_ ?_
             rotate_left
             ·
              simp only [Act.put, List.setIfInBounds_toArray, List.set_cons_zero, List.set_cons_succ, i64_w, i32_w]
              rfl
             refine pure_ (i := 19) (N := some 46) (v := undef) (a' := ?_) #[true, true, true, true, true, true, true, true, true, true, true, true, true, true, true, true, true, true, true, true, false, false, false, false, false, false] rfl rfl (any_of HT_.out (by kernel_rfl)) (fun _ _ _ h => h) (Or.inr ⟨by rfl, rfl⟩) ?_ ?_
             rotate_left
             ·
              simp only [Act.put, List.setIfInBounds_toArray, List.set_cons_zero, List.set_cons_succ, i64_w, i32_w]
              rfl
             refine pure_ (i := 20) (N := some 47) (v := undef) (a' := ?_) #[true, true, true, true, true, true, true, true, true, true, true, true, true, true, true, true, true, true, true, true, true, false, false, false, false, false] rfl rfl (any_of HT_.out (by kernel_rfl)) (fun _ _ _ h => h) (Or.inr ⟨by rfl, rfl⟩) ?_ ?_
             rotate_left
             ·
              simp only [Act.put, List.setIfInBounds_toArray, List.set_cons_zero, List.set_cons_succ, i64_w, i32_w]
              rfl
             refine pure_ (i := 21) (N := some 48) (v := undef) (a' := ?_) #[true, true, true, true, true, true, true, true, true, true, true, true, true, true, true, true, true, true, true, true, true, true, false, false, false, false] rfl rfl (any_of HT_.out (by kernel_rfl)) (fun _ _ _ h => h) (Or.inr ⟨by rfl, rfl⟩) ?_ ?_
             rotate_left
             ·
              simp only [Act.put, List.setIfInBounds_toArray, List.set_cons_zero, List.set_cons_succ, i64_w, i32_w]
              rfl
             refine pure_ (i := 22) (N := some 49) (v := undef) (a' := ?_) #[true, true, true, true, true, true, true, true, true, true, true, true, true, true, true, true, true, true, true, true, true, true, true, false, false, false] rfl rfl (any_of HT_.out (by kernel_rfl)) (fun _ _ _ h => h) (Or.inr ⟨by rfl, rfl⟩) ?_ ?_
             rotate_left
             ·
              simp only [Act.put, List.setIfInBounds_toArray, List.set_cons_zero, List.set_cons_succ, i64_w, i32_w]
              rfl
             refine pure_ (i := 23) (N := some 50) (v := undef) (a' := ?_) #[true, true, true, true, true, true, true, true, true, true, true, true, true, true, true, true, true, true, true, true, true, true, true, true, false, false] rfl rfl (any_of HT_.out (by kernel_rfl)) (fun _ _ _ h => h) (Or.inr ⟨by rfl, rfl⟩) ?_ ?_
             rotate_left
             ·
              simp only [Act.put, List.setIfInBounds_toArray, List.set_cons_zero, List.set_cons_succ, i64_w, i32_w]
              rfl
             refine pure_ (i := 24) (N := some 51) (v := ?_) (a' := ?_) #[true, true, true, true, true, true, true, true, true, true, true, true, true, true, true, true, true, true, true, true, true, true, true, true, true, false] rfl rfl (any_of HT_.out (by kernel_rfl)) (fun _ _ _ h => h) (Or.inl ⟨by rfl, ?_⟩) ?_ ?_
             rotate_left
             ·
              intro w'
              go_simp
              with_reducible rfl
             rotate_left
             ·
              simp only [Act.put, List.setIfInBounds_toArray, List.set_cons_zero, List.set_cons_succ, i64_w, i32_w]
              rfl
             refine pure_ (i := 25) (N := some 52) (v := ?_) (a' := ?_) #[true, true, true, true, true, true, true, true, true, true, true, true, true, true, true, true, true, true, true, true, true, true, true, true, true, true] rfl rfl (any_of HT_.out (by kernel_rfl)) (fun _ _ _ h => h) (Or.inl ⟨by rfl, ?_⟩) ?_ ?_
             rotate_left
             ·
              intro w'
              go_simp
              with_reducible rfl
             rotate_left
             ·
              simp only [Act.put, List.setIfInBounds_toArray, List.set_cons_zero, List.set_cons_succ, i64_w, i32_w]
              rfl
             refine done_ (done_of HT_.out (by kernel_rfl)) ?_
             try go_wp2
             go_roundg k2
             case measure => have := HK1.out; have := HK2.out; omega
             case rel => exact ⟨(wrap64 (x22_2 + 1)), (by first | rfl | (simp; done) | (simp [*]; done)), H', ⟨by have := HK1.out; have := HK2.out; omega⟩, ⟨by (with_reducible repeat (first | apply Kd.N_alloc | apply Kd.N_drewN | apply Kd.N_drew)); exact Kd.N_mono HO_14.out (fun _ hk => hk.1)⟩, ⟨by (with_reducible repeat (first | refine blk_drewN ?_ _ | refine blk_drew ?_ | refine blk_alloc ?_ _)); exact BK280.out⟩, ⟨by repeat (first | (with_reducible first | exact HB.out | apply below_alloc | apply pw_below_drewN | apply below_drew1 | refine below_set ?_ GE280.out | refine below_set ?_ GE293.out) | exact HB.out)⟩, ⟨by repeat (first | (with_reducible first | exact HBX.out | apply below_alloc | apply pw_below_drewN | apply below_drew1 | refine below_set ?_ GEX280.out | refine below_set ?_ GEX293.out) | exact HBX.out)⟩⟩
          ·
           rw [if_neg c19] at H
           exact absurd H (by simp)
         ·
          rw [if_neg c18] at H
          exact absurd H (by simp)
        ·
         rw [if_neg c17] at H
         have c17b0 : decide (x22_2 < ((rd_L3 y287 x16_1).length : Int)) = false := decide_eq_false c17
         clear c17
         have H' := Aside0.mk H
         clear H
         go_wp2
         go_roundg k2
         case measure => have := HK1.out; have := HK2.out; omega
         case rel => exact ⟨(wrap64 (x16_1 + 1)), (by first | rfl | (simp; done) | (simp [*]; done)), H', ⟨by have := HK1.out; have := HK2.out; omega⟩, ⟨by (with_reducible repeat (first | apply Kd.N_alloc | apply Kd.N_drewN | apply Kd.N_drew)); exact HO_14.out⟩, ⟨by (with_reducible repeat (first | refine blk_drewN ?_ _ | refine blk_drew ?_ | refine blk_alloc ?_ _)); exact BK280.out⟩, ⟨by repeat (first | (with_reducible first | exact HB.out | apply below_alloc | apply pw_below_drewN | apply below_drew1 | refine below_set ?_ GE280.out) | exact HB.out)⟩⟩
     ·
      rw [if_neg c16] at H
      exact absurd H (by simp)
    ·
     rw [if_neg c15] at H
     exact absurd H (by simp)
   ·
    rw [if_neg c14] at H
    have c14b0 : decide (x16_1 < (y287.length : Int)) = false := decide_eq_false c14
    clear c14
    replace H := Option.bind_eq_some_iff.mp H
    obtain ⟨t290, A400, H⟩ := H
    replace H : (some t290) = some true := H
    have A40 := Aside0.mk A400
    clear A400
    have HRT := Aside0.mk (Option.some.inj H)
    clear H
    go_wp2_with (first | ((with_reducible refine gate_callee (f := 13) rfl ?_); refine goesL_ (some 55) rfl rfl Try.func13 (by kernel_rfl) rfl #[] rfl (by (try simp only [List.map_toArray, List.map_cons, List.map_nil]); first | done | rfl | (simp only [List.length_drop, List.length_take]; rfl)) ?_; (with_reducible refine (cressetlaw05_live.calls k1  t290 _ A40.out).mono ?_); rintro e w41 ⟨rfl, hb⟩; refine ⟨_, rfl, ?_⟩; have n0_ := Aside0.mk (Kd.N_below (by (with_reducible repeat (first | apply Kd.N_alloc | apply Kd.N_drewN | apply Kd.N_drew)); exact HO_14.out) hb); have n1_ := Aside0.mk (blk_below (g := gb280) (o := .cells #[.string a1_0, .string a1_1] 27 (0, 0)) (by (with_reducible repeat (first | refine blk_drewN ?_ _ | refine blk_drew ?_ | refine blk_alloc ?_ _)); exact BK280.out) hb); have n2_ := Aside0.mk (below_step (by repeat (first | (with_reducible first | exact HB.out | apply below_alloc | apply pw_below_drewN | apply below_drew1 | refine below_set ?_ GE280.out) | exact HB.out)) hb); clear HO_14; clear BK280; clear HB; have HO_14 := n0_; have BK280 := n1_; have HB := n2_; clear n0_ n1_ n2_; (try clear hb); (try clear hb2); (try clear hk); (try clear hi)))
    go_ret
    exact ⟨by first | exact congrArg (fun b_ => Ending.returned (.bool b_)) HRT.out | exact congrArg (fun b_ => Ending.returned (.bool b_)) (by simpa using HRT.out) | rfl | (simp [errW_none, errW_some] <;> rfl) | (simp [*, errW_none, errW_some] <;> rfl), by repeat (first | (with_reducible first | exact HB.out | apply below_alloc | apply pw_below_drewN | apply below_drew1 | refine below_set ?_ GE280.out) | exact HB.out)⟩

/-- THE ONE PURE STATEMENT of cressetlaw05_KeysFew: yours. -/
def cressetlaw05_KeysFew.Pure : Prop := ∀ (l0 : List (S27)) (a1_0 : ByteArray) (a1_1 : ByteArray), (l0.length ≤ maxLen ∧ l0.length * 32 ≤ 140737488351232 ∧ ∀ x_ ∈ l0, ok27 x_) → a1_0.size ≤ 140737488351232 → a1_1.size ≤ 140737488351232 → (((l0.map bulk27).sum + 1)) + ((((a1_0.size + 1)) + ((a1_1.size + 1))) + 1) ≤ 1048576 → ∃ k, cressetlaw05_KeysFew.f k l0 a1_0 a1_1 = some true
theorem cressetlaw05_KeysFew.walk (P : cressetlaw05_KeysFew.Pure) (A0 : Option Addr) (c0 : Nat) (l0 : List (S27)) (a1_0 : ByteArray) (a1_1 : ByteArray) (w : World) (hr0 : Kd.C k27 w A0 l0.length l0) (hc0 : l0.length ≤ c0) (w0 : (l0.length ≤ maxLen ∧ l0.length * 32 ≤ 140737488351232 ∧ ∀ x_ ∈ l0, ok27 x_)) (w1_0 : a1_0.size ≤ 140737488351232) (w1_1 : a1_1.size ≤ 140737488351232) (hU : (((l0.map bulk27).sum + 1)) + ((((a1_0.size + 1)) + ((a1_1.size + 1))) + 1) ≤ 1048576) :
  Calls Try.prog 7 #[.slice A0 l0.length c0, .agg #[.string a1_0, .string a1_1]] w fun e w' => e = .returned (.bool true) ∧ Below w.heap.size w w' := by
 obtain ⟨k, h⟩ := P l0 a1_0 a1_1 w0 w1_0 w1_1 hU
 refine (cressetlaw05_KeysFew.calls k A0 c0 l0 a1_0 a1_1 w hr0 hc0 h).mono ?_
 rintro e w' ⟨rfl, hd⟩
 exact ⟨rfl, hd⟩

end Go.Proofs.Ytmgbmnjjkcljhaa.B

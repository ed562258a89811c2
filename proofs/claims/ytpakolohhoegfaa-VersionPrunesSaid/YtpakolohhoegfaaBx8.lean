-- Written by a program of this session (wip/print2) out of Lean's print of the translation. Not trusted: Lean checks it.
import Derived.Test.YtpakolohhoegfaaBx0
import Derived.Test.YtpakolohhoegfaaBx3
import Derived.Test.YtpakolohhoegfaaBx4
import Derived.Test.YtpakolohhoegfaaBx5
import Derived.Test.YtpakolohhoegfaaBx6
import Derived.Test.YtpakolohhoegfaaBx7
namespace Go.Proofs.Ytpakolohhoegfaa.B
open Go.RowKit Go.Proofs.YtpakolohhoegfaaW.PrintWords Go.Proofs.YtpakolohhoegfaaW.PrintLast Go.Proofs.YtpakolohhoegfaaW.PrintMore Go.Proofs.YtpakolohhoegfaaW.Mine
attribute [local go_sem] max2_int min2_int max_two min_two max_three min_three max_four min_four str_gtr str_leq str_geq str_max str_min   -- for this text's walks alone
set_option linter.unusedVariables false
set_option linter.unusedSimpArgs false

/-! ### cressetlaw15_VersionPrunes: function 3 -/
def cressetlaw15_VersionPrunes.j0 : Nat → List (S33) → Int → Int → List (S33) → List (S33) → Bool → Option (Bool)
  | 0, _, _, _, _, _, _ => none
  | k + 1, x0, x1, x2, x7, x8, x27 => if x27 = true then ((cressetlaw15_live.f k).bind fun t161 => (if t161 = true then (some ((wrap64 ((x7.length : Int) + (x8.length : Int))) == (x0.length : Int))) else (some false))) else ((version_Value.f x0 (mx x2 x1)).bind fun bt162 => ((version_Value.f x7 (mx x2 x1)).bind fun bt164 => ((version_Prune.f k x7 x1).bind fun bt166 => (if bt162.1.toList = bt164.1.toList then (if (bt162.2 == bt164.2) = true then ((cressetref15_Same.f k bt166.1 x7).bind fun t172 => (if t172 = true then (if (bt166.2.length : Int) = 0 then (if (wrap64 ((x7.length : Int) + (x8.length : Int))) = (x0.length : Int) then ((version_Check.f k x7).bind fun t173 => (some (t173 == 0))) else (some false)) else (some false)) else (some false))) else (some false)) else (some false)))))
def cressetlaw15_VersionPrunes.f (k : Nat) (l0 : List (S33)) (a1 : Int) (a2 : Int) : Option (Bool) := (version_Prune.f k l0 a1).bind fun bt153 => ((cressetref15_Check.f k l0).bind fun t159 => (if t159 = 0 then ((cressetlaw15_live.f k).bind fun t160 => (cressetlaw15_VersionPrunes.j0 k l0 a1 a2 bt153.1 bt153.2 (!t160))) else (cressetlaw15_VersionPrunes.j0 k l0 a1 a2 bt153.1 bt153.2 true)))
theorem cressetlaw15_VersionPrunes.mono_l : ∀ k, (∀ y0 y1 y2 y3 y4 y5, LeO (cressetlaw15_VersionPrunes.j0 k y0 y1 y2 y3 y4 y5) (cressetlaw15_VersionPrunes.j0 (k + 1) y0 y1 y2 y3 y4 y5))
  | 0 => fun _ _ _ _ _ _ r h => by simp [cressetlaw15_VersionPrunes.j0] at h
  | k + 1 => by
    have ih0 := cressetlaw15_VersionPrunes.mono_l k
    · intro y0 y1 y2 y3 y4 y5
      unfold cressetlaw15_VersionPrunes.j0
      repeat' first
      | (with_reducible exact ih0 _ _ _ _ _ _)
      | (with_reducible exact cressetlaw15_live.mono _)
      | (with_reducible exact cressetref15_Check.mono _ _)
      | (with_reducible exact cressetref15_Same.mono _ _ _)
      | (with_reducible exact version_Check.mono _ _)
      | (with_reducible exact version_Prune.mono _ _ _)
      | (with_reducible exact LeO.refl _)
      | (with_reducible exact LeO.none _)
      | (with_reducible refine LeO.ite ?_ ?_)
      | (with_reducible refine LeO.bind ?_ (fun _ => ?_))
      | exact ih0 _ _ _ _ _ _
      | exact cressetlaw15_live.mono _
      | exact cressetref15_Check.mono _ _
      | exact cressetref15_Same.mono _ _ _
      | exact version_Check.mono _ _
      | exact version_Prune.mono _ _ _
      | exact LeO.none _
      | refine LeO.ite ?_ ?_
      | refine LeO.bind ?_ (fun _ => ?_)
theorem cressetlaw15_VersionPrunes.mono : ∀ a0 a1 a2 k, LeO (cressetlaw15_VersionPrunes.f k a0 a1 a2) (cressetlaw15_VersionPrunes.f (k + 1) a0 a1 a2) := by
  intro a0 a1 a2 k
  have ih0 := cressetlaw15_VersionPrunes.mono_l k
  unfold cressetlaw15_VersionPrunes.f
  repeat' first
      | (with_reducible exact ih0 _ _ _ _ _ _)
      | (with_reducible exact cressetlaw15_live.mono _)
      | (with_reducible exact cressetref15_Check.mono _ _)
      | (with_reducible exact cressetref15_Same.mono _ _ _)
      | (with_reducible exact version_Check.mono _ _)
      | (with_reducible exact version_Prune.mono _ _ _)
      | (with_reducible exact LeO.refl _)
      | (with_reducible exact LeO.none _)
      | (with_reducible refine LeO.ite ?_ ?_)
      | (with_reducible refine LeO.bind ?_ (fun _ => ?_))
      | exact ih0 _ _ _ _ _ _
      | exact cressetlaw15_live.mono _
      | exact cressetref15_Check.mono _ _
      | exact cressetref15_Same.mono _ _ _
      | exact version_Check.mono _ _
      | exact version_Prune.mono _ _ _
      | exact LeO.none _
      | refine LeO.ite ?_ ?_
      | refine LeO.bind ?_ (fun _ => ?_)
set_option maxHeartbeats 8000000 in
set_option maxRecDepth 100000 in
theorem cressetlaw15_VersionPrunes.calls (k : Nat) (A0 : Option Addr) (c0 : Nat) (l0 : List (S33)) (a1 : Int) (a2 : Int) (w : World) (hr0 : Kd.C k33 w A0 l0.length l0) (hc0 : l0.length ≤ c0) (h : cressetlaw15_VersionPrunes.f k l0 a1 a2 = some true) :
    Calls Try.prog 3 #[.slice A0 l0.length c0, .int .i64 a1, .int .i64 a2] w fun e w' => e = .returned (.bool true) ∧ Below w.heap.size w w' := by
 have HR0 := Aside0.mk hr0
 have HC0 := Aside0.mk hc0
 clear hr0 hc0
 have HB := Aside0.mk (Below.refl w.heap.size w)
 have H : ((version_Prune.f k l0 a1).bind fun bt153 => ((cressetref15_Check.f k l0).bind fun t159 => (if t159 = 0 then ((cressetlaw15_live.f k).bind fun t160 => (cressetlaw15_VersionPrunes.j0 k l0 a1 a2 bt153.1 bt153.2 (!t160))) else (cressetlaw15_VersionPrunes.j0 k l0 a1 a2 bt153.1 bt153.2 true)))) = some true := h
 clear h
 replace H := Option.bind_eq_some_iff.mp H
 obtain ⟨⟨t153, t154⟩, A40, H⟩ := H
 replace H : ((cressetref15_Check.f k l0).bind fun t159 => (if t159 = 0 then ((cressetlaw15_live.f k).bind fun t160 => (cressetlaw15_VersionPrunes.j0 k l0 a1 a2 t153 t154 (!t160))) else (cressetlaw15_VersionPrunes.j0 k l0 a1 a2 t153 t154 true))) = some true := H
 have A4 := Aside0.mk A40
 clear A40
 have HC5 := Aside0.mk H
 clear H
 go_enter Try.func3, Try.ntmps3
 go_upto_region 2 with (first | ((with_reducible refine gate_callee (f := 10) rfl ?_); refine goesL_ (some 18) rfl rfl Try.func10 (by kernel_rfl) rfl #[.slice A0 l0.length c0, .int .i64 a1] rfl (by (try simp only [List.map_toArray, List.map_cons, List.map_nil]); first | done | rfl | (simp only [List.length_drop, List.length_take]; rfl)) ?_; (with_reducible refine (version_Prune.calls k _ _ l0 a1 t153 t154 _ ?side1 ?side2 A4.out).mono ?_); (case side1 => repeat (first | exact HR0.out | (with_reducible refine Kd.C_alloc ?_ _) | (with_reducible refine Kd.C_drewN ?_ _) | (with_reducible refine Kd.C_drew ?_))); (case side2 => exact HC0.out); rintro e w6 ⟨v155, v157, rfl, ho0, ho1, hb⟩; refine ⟨_, rfl, ?_⟩; have n0_ := Aside0.mk (Kd.R_lower ho0 (below_size (by repeat (first | (with_reducible first | exact HB.out | apply below_alloc | apply pw_below_drewN | apply below_drew1) | exact HB.out)))); have n1_ := Aside0.mk (Kd.R_lower ho1 (below_size (by repeat (first | (with_reducible first | exact HB.out | apply below_alloc | apply pw_below_drewN | apply below_drew1) | exact HB.out)))); have n2_ := Aside0.mk (below_step (by repeat (first | (with_reducible first | exact HB.out | apply below_alloc | apply pw_below_drewN | apply below_drew1) | exact HB.out)) hb); clear HB; have HO156 := n0_; have HO158 := n1_; have HB := n2_; clear n0_ n1_ n2_; (try clear hb); (try clear hb2); (try clear hk); (try clear hi); (try clear ho0); (try clear ho1)))
 (try simp only [Act.put, List.setIfInBounds_toArray, List.set_cons_zero, List.set_cons_succ])
 go_cut [27] (fun v27 wc => ∃ (kq : Nat) (x27_4 : Bool), v27 = .bool x27_4 ∧ Aside0 (cressetlaw15_VersionPrunes.j0 kq l0 a1 a2 t153 t154 x27_4 = some true) ∧ Aside0 (kq ≤ k) ∧ Aside0 (Kd.R k33 33 wc w.heap.size (fun k_ => some k_ ≠ (v157 : Value).ownBlock) v155 t153) ∧ Aside0 (Kd.R k33 33 wc w.heap.size (fun k_ => some k_ ≠ (v155 : Value).ownBlock) v157 t154) ∧ Aside0 (Below w.heap.size w wc))
 case first =>
  have H := HC5.out
  clear HC5
  replace H := Option.bind_eq_some_iff.mp H
  obtain ⟨t159, A70, H⟩ := H
  replace H : (if t159 = 0 then ((cressetlaw15_live.f k).bind fun t160 => (cressetlaw15_VersionPrunes.j0 k l0 a1 a2 t153 t154 (!t160))) else (cressetlaw15_VersionPrunes.j0 k l0 a1 a2 t153 t154 true)) = some true := H
  have A7 := Aside0.mk A70
  clear A70
  by_cases c8 : t159 = 0
  ·
   rw [if_pos c8] at H
   have c8b0 : (t159 == 0) = true := beq_iff_eq.mpr c8
   have c8b1 : (t159 != 0) = false := bne_eq_false_iff_eq.mpr c8
   clear c8
   (first | rw [c8b0] | (simp only [i64_w, i32_w]; rw [c8b0]) | skip)
   replace H := Option.bind_eq_some_iff.mp H
   obtain ⟨t160, A90, H⟩ := H
   replace H : (cressetlaw15_VersionPrunes.j0 k l0 a1 a2 t153 t154 (!t160)) = some true := H
   have A9 := Aside0.mk A90
   clear A90
   have H' := Aside0.mk H
   clear H
   go_wp2_with (first | ((with_reducible refine gate_callee (f := 11) rfl ?_); refine goesL_ (some 22) rfl rfl Try.func11 (by kernel_rfl) rfl #[.slice A0 l0.length c0] rfl (by (try simp only [List.map_toArray, List.map_cons, List.map_nil]); first | done | rfl | (simp only [List.length_drop, List.length_take]; rfl)) ?_; (with_reducible refine (cressetref15_Check.calls k _ _ l0 t159 _ ?side1 ?side2 A7.out).mono ?_); (case side1 => repeat (first | exact (Kd.C_below HR0.out HB.out) | (with_reducible refine Kd.C_alloc ?_ _) | (with_reducible refine Kd.C_drewN ?_ _) | (with_reducible refine Kd.C_drew ?_))); (case side2 => exact HC0.out); rintro e w10 ⟨rfl, hb⟩; refine ⟨_, rfl, ?_⟩; have n0_ := Aside0.mk (Kd.R_below (by (with_reducible repeat (first | apply Kd.R_alloc | apply Kd.R_drewN | apply Kd.R_drew)); exact HO156.out) hb); have n1_ := Aside0.mk (Kd.R_below (by (with_reducible repeat (first | apply Kd.R_alloc | apply Kd.R_drewN | apply Kd.R_drew)); exact HO158.out) hb); have n2_ := Aside0.mk (below_step (by repeat (first | (with_reducible first | exact HB.out | apply below_alloc | apply pw_below_drewN | apply below_drew1) | exact HB.out)) hb); clear HO156; clear HO158; clear HB; have HO156 := n0_; have HO158 := n1_; have HB := n2_; clear n0_ n1_ n2_; (try clear hb); (try clear hb2); (try clear hk); (try clear hi)) | (go_at_call 12; (with_reducible refine (cressetlaw15_live.calls k  t160 _ A9.out).mono ?_); rintro e w11 ⟨rfl, hb⟩; have n0_ := Aside0.mk (Kd.R_below (by (with_reducible repeat (first | apply Kd.R_alloc | apply Kd.R_drewN | apply Kd.R_drew)); exact HO156.out) hb); have n1_ := Aside0.mk (Kd.R_below (by (with_reducible repeat (first | apply Kd.R_alloc | apply Kd.R_drewN | apply Kd.R_drew)); exact HO158.out) hb); have n2_ := Aside0.mk (below_step (by repeat (first | (with_reducible first | exact HB.out | apply below_alloc | apply pw_below_drewN | apply below_drew1) | exact HB.out)) hb); clear HO156; clear HO158; clear HB; have HO156 := n0_; have HO158 := n1_; have HB := n2_; clear n0_ n1_ n2_; (try clear hb); (try clear hb2); (try clear hk); (try clear hi)))
   go_meet
   case rel => exact ⟨_, (!t160), (by first | rfl | (simp; done) | (simp [*]; done)), H', ⟨by first | omega | exact Nat.le_refl _⟩, ⟨by (with_reducible repeat (first | apply Kd.R_alloc | apply Kd.R_drewN | apply Kd.R_drew)); exact HO156.out⟩, ⟨by (with_reducible repeat (first | apply Kd.R_alloc | apply Kd.R_drewN | apply Kd.R_drew)); exact HO158.out⟩, ⟨by repeat (first | (with_reducible first | exact HB.out | apply below_alloc | apply pw_below_drewN | apply below_drew1) | exact HB.out)⟩⟩
  ·
   rw [if_neg c8] at H
   have c8b0 : (t159 == 0) = false := beq_eq_false_iff_ne.mpr c8
   have c8b1 : (t159 != 0) = true := bne_iff_ne.mpr c8
   (first | rw [c8b0] | (simp only [i64_w, i32_w]; rw [c8b0]) | skip)
   have H' := Aside0.mk H
   clear H
   go_wp2_with (first | ((with_reducible refine gate_callee (f := 11) rfl ?_); refine goesL_ (some 22) rfl rfl Try.func11 (by kernel_rfl) rfl #[.slice A0 l0.length c0] rfl (by (try simp only [List.map_toArray, List.map_cons, List.map_nil]); first | done | rfl | (simp only [List.length_drop, List.length_take]; rfl)) ?_; (with_reducible refine (cressetref15_Check.calls k _ _ l0 t159 _ ?side1 ?side2 A7.out).mono ?_); (case side1 => repeat (first | exact (Kd.C_below HR0.out HB.out) | (with_reducible refine Kd.C_alloc ?_ _) | (with_reducible refine Kd.C_drewN ?_ _) | (with_reducible refine Kd.C_drew ?_))); (case side2 => exact HC0.out); rintro e w12 ⟨rfl, hb⟩; refine ⟨_, rfl, ?_⟩; have n0_ := Aside0.mk (Kd.R_below (by (with_reducible repeat (first | apply Kd.R_alloc | apply Kd.R_drewN | apply Kd.R_drew)); exact HO156.out) hb); have n1_ := Aside0.mk (Kd.R_below (by (with_reducible repeat (first | apply Kd.R_alloc | apply Kd.R_drewN | apply Kd.R_drew)); exact HO158.out) hb); have n2_ := Aside0.mk (below_step (by repeat (first | (with_reducible first | exact HB.out | apply below_alloc | apply pw_below_drewN | apply below_drew1) | exact HB.out)) hb); clear HO156; clear HO158; clear HB; have HO156 := n0_; have HO158 := n1_; have HB := n2_; clear n0_ n1_ n2_; (try clear hb); (try clear hb2); (try clear hk); (try clear hi)))
   go_meet
   case rel => exact ⟨_, (true), (by first | rfl | (simp; done) | (simp [*]; done)), H', ⟨by first | omega | exact Nat.le_refl _⟩, ⟨by (with_reducible repeat (first | apply Kd.R_alloc | apply Kd.R_drewN | apply Kd.R_drew)); exact HO156.out⟩, ⟨by (with_reducible repeat (first | apply Kd.R_alloc | apply Kd.R_drewN | apply Kd.R_drew)); exact HO158.out⟩, ⟨by repeat (first | (with_reducible first | exact HB.out | apply below_alloc | apply pw_below_drewN | apply below_drew1) | exact HB.out)⟩⟩
 case rest =>
  clear HC5
  try clear c1
  try clear p2
  try clear c3
  try clear c8
  try clear c8b0
  try clear c8b1
  try clear c10
  try clear c11
  obtain ⟨kq, x27_4, rfl, HA, HJ4, HO_7, HO_8, HB⟩ := hcut
  cases kq with
  | zero => exact absurd HA.out (by simp [cressetlaw15_VersionPrunes.j0])
  | succ kj4 =>
   have H := HA.out
   clear HA
   simp only [cressetlaw15_VersionPrunes.j0] at H
   by_cases c13 : x27_4 = true
   ·
    subst c13
    have H1 : ((cressetlaw15_live.f kj4).bind fun t161 => (if t161 = true then (some ((wrap64 ((t153.length : Int) + (t154.length : Int))) == (l0.length : Int))) else (some false))) = some true := by rw [if_pos rfl] at H; first | done | exact H
    clear H
    have H := H1
    clear H1
    replace H := Option.bind_eq_some_iff.mp H
    obtain ⟨t161, A140, H⟩ := H
    replace H : (if t161 = true then (some ((wrap64 ((t153.length : Int) + (t154.length : Int))) == (l0.length : Int))) else (some false)) = some true := H
    have A14 := Aside0.mk A140
    clear A140
    by_cases c15 : t161 = true
    ·
     subst c15
     have H1 : (some ((wrap64 ((t153.length : Int) + (t154.length : Int))) == (l0.length : Int))) = some true := by rw [if_pos rfl] at H; first | done | exact H
     clear H
     have H := H1
     clear H1
     have HRT := Aside0.mk (Option.some.inj H)
     clear H
     go_wp2_with (first | ((with_reducible refine gate_callee (f := 12) rfl ?_); refine goesL_ (some 28) rfl rfl Try.func12 (by kernel_rfl) rfl #[] rfl (by (try simp only [List.map_toArray, List.map_cons, List.map_nil]); first | done | rfl | (simp only [List.length_drop, List.length_take]; rfl)) ?_; (with_reducible refine (cressetlaw15_live.calls kj4  true _ A14.out).mono ?_); rintro e w16 ⟨rfl, hb⟩; refine ⟨_, rfl, ?_⟩; have n0_ := Aside0.mk (Kd.R_below (by (with_reducible repeat (first | apply Kd.R_alloc | apply Kd.R_drewN | apply Kd.R_drew)); exact HO_7.out) hb); have n1_ := Aside0.mk (Kd.R_below (by (with_reducible repeat (first | apply Kd.R_alloc | apply Kd.R_drewN | apply Kd.R_drew)); exact HO_8.out) hb); have n2_ := Aside0.mk (below_step (by repeat (first | (with_reducible first | exact HB.out | apply below_alloc | apply pw_below_drewN | apply below_drew1) | exact HB.out)) hb); clear HO_7; clear HO_8; clear HB; have HO_7 := n0_; have HO_8 := n1_; have HB := n2_; clear n0_ n1_ n2_; (try clear hb); (try clear hb2); (try clear hk); (try clear hi); obtain ⟨Ao17, co17, eo17⟩ := Kd.R_slice HO_7.out; subst eo17; obtain ⟨Ao18, co18, eo18⟩ := Kd.R_slice HO_8.out; subst eo18))
     go_ret
     exact ⟨by first | exact congrArg (fun b_ => Ending.returned (.bool b_)) HRT.out | exact congrArg (fun b_ => Ending.returned (.bool b_)) (by simpa using HRT.out) | rfl | (simp [errW_none, errW_some] <;> rfl) | (simp [*, errW_none, errW_some] <;> rfl), by repeat (first | (with_reducible first | exact HB.out | apply below_alloc | apply pw_below_drewN | apply below_drew1) | exact HB.out)⟩
    ·
     replace c15 := Bool.eq_false_iff.mpr c15
     subst c15
     have H1 : (some false) = some true := by rw [if_neg (show ¬ (false = true) by decide)] at H; first | done | exact H
     clear H
     have H := H1
     clear H1
     exact absurd H (by simp)
   ·
    replace c13 := Bool.eq_false_iff.mpr c13
    subst c13
    have H1 : ((version_Value.f l0 (mx a2 a1)).bind fun bt162 => ((version_Value.f t153 (mx a2 a1)).bind fun bt164 => ((version_Prune.f kj4 t153 a1).bind fun bt166 => (if bt162.1.toList = bt164.1.toList then (if (bt162.2 == bt164.2) = true then ((cressetref15_Same.f kj4 bt166.1 t153).bind fun t172 => (if t172 = true then (if (bt166.2.length : Int) = 0 then (if (wrap64 ((t153.length : Int) + (t154.length : Int))) = (l0.length : Int) then ((version_Check.f kj4 t153).bind fun t173 => (some (t173 == 0))) else (some false)) else (some false)) else (some false))) else (some false)) else (some false))))) = some true := by rw [if_neg (show ¬ (false = true) by decide)] at H; first | done | exact H
    clear H
    have H := H1
    clear H1
    obtain ⟨ji19, hji19⟩ : ∃ j_ : Int, (mx a2 a1) = j_ := ⟨_, rfl⟩
    replace H : ((version_Value.f l0 (ji19)).bind fun bt162 => ((version_Value.f t153 (ji19)).bind fun bt164 => ((version_Prune.f kj4 t153 a1).bind fun bt166 => (if bt162.1.toList = bt164.1.toList then (if (bt162.2 == bt164.2) = true then ((cressetref15_Same.f kj4 bt166.1 t153).bind fun t172 => (if t172 = true then (if (bt166.2.length : Int) = 0 then (if (wrap64 ((t153.length : Int) + (t154.length : Int))) = (l0.length : Int) then ((version_Check.f kj4 t153).bind fun t173 => (some (t173 == 0))) else (some false)) else (some false)) else (some false))) else (some false)) else (some false))))) = some true := by first | (rw [hji19] at H; first | done | exact H) | (simp only [hji19] at H ⊢; exact H)
    have hji19_ : (if a2 < a1 then a1 else a2) = ji19 := hji19
    replace H := Option.bind_eq_some_iff.mp H
    obtain ⟨⟨t162, t163⟩, A200, H⟩ := H
    replace H : ((version_Value.f t153 (ji19)).bind fun bt164 => ((version_Prune.f kj4 t153 a1).bind fun bt166 => (if t162.toList = bt164.1.toList then (if (t163 == bt164.2) = true then ((cressetref15_Same.f kj4 bt166.1 t153).bind fun t172 => (if t172 = true then (if (bt166.2.length : Int) = 0 then (if (wrap64 ((t153.length : Int) + (t154.length : Int))) = (l0.length : Int) then ((version_Check.f kj4 t153).bind fun t173 => (some (t173 == 0))) else (some false)) else (some false)) else (some false))) else (some false)) else (some false)))) = some true := H
    have A20 := Aside0.mk A200
    clear A200
    replace H := Option.bind_eq_some_iff.mp H
    obtain ⟨⟨t164, t165⟩, A210, H⟩ := H
    replace H : ((version_Prune.f kj4 t153 a1).bind fun bt166 => (if t162.toList = t164.toList then (if (t163 == t165) = true then ((cressetref15_Same.f kj4 bt166.1 t153).bind fun t172 => (if t172 = true then (if (bt166.2.length : Int) = 0 then (if (wrap64 ((t153.length : Int) + (t154.length : Int))) = (l0.length : Int) then ((version_Check.f kj4 t153).bind fun t173 => (some (t173 == 0))) else (some false)) else (some false)) else (some false))) else (some false)) else (some false))) = some true := H
    have A21 := Aside0.mk A210
    clear A210
    replace H := Option.bind_eq_some_iff.mp H
    obtain ⟨⟨t166, t167⟩, A220, H⟩ := H
    replace H : (if t162.toList = t164.toList then (if (t163 == t165) = true then ((cressetref15_Same.f kj4 t166 t153).bind fun t172 => (if t172 = true then (if (t167.length : Int) = 0 then (if (wrap64 ((t153.length : Int) + (t154.length : Int))) = (l0.length : Int) then ((version_Check.f kj4 t153).bind fun t173 => (some (t173 == 0))) else (some false)) else (some false)) else (some false))) else (some false)) else (some false)) = some true := H
    have A22 := Aside0.mk A220
    clear A220
    by_cases c23 : t162.toList = t164.toList
    ·
     rw [if_pos c23] at H
     have c23b0 : (t162.toList == t164.toList) = true := beq_iff_eq.mpr c23
     have c23b1 : (t162.toList != t164.toList) = false := bne_eq_false_iff_eq.mpr c23
     clear c23
     by_cases c24 : (t163 == t165) = true
     ·
      rw [if_pos c24] at H
      have c24b0 : (t163 == t165) = true := c24
      (try (have c24b1 : decide (t163 = t165) = true := by simpa using c24))
      (try (have c24b2 : (t163 == t165) = true := by simpa using c24))
      clear c24
      replace H := Option.bind_eq_some_iff.mp H
      obtain ⟨t172, A250, H⟩ := H
      replace H : (if t172 = true then (if (t167.length : Int) = 0 then (if (wrap64 ((t153.length : Int) + (t154.length : Int))) = (l0.length : Int) then ((version_Check.f kj4 t153).bind fun t173 => (some (t173 == 0))) else (some false)) else (some false)) else (some false)) = some true := H
      have A25 := Aside0.mk A250
      clear A250
      by_cases c26 : t172 = true
      ·
       subst c26
       have H1 : (if (t167.length : Int) = 0 then (if (wrap64 ((t153.length : Int) + (t154.length : Int))) = (l0.length : Int) then ((version_Check.f kj4 t153).bind fun t173 => (some (t173 == 0))) else (some false)) else (some false)) = some true := by rw [if_pos rfl] at H; first | done | exact H
       clear H
       have H := H1
       clear H1
       by_cases c27 : (t167.length : Int) = 0
       ·
        rw [if_pos c27] at H
        have c27b0 : ((t167.length : Int) == 0) = true := beq_iff_eq.mpr c27
        have c27b1 : ((t167.length : Int) != 0) = false := bne_eq_false_iff_eq.mpr c27
        clear c27
        by_cases c28 : (wrap64 ((t153.length : Int) + (t154.length : Int))) = (l0.length : Int)
        ·
         rw [if_pos c28] at H
         have c28b0 : ((wrap64 ((t153.length : Int) + (t154.length : Int))) == (l0.length : Int)) = true := beq_iff_eq.mpr c28
         have c28b1 : ((wrap64 ((t153.length : Int) + (t154.length : Int))) != (l0.length : Int)) = false := bne_eq_false_iff_eq.mpr c28
         clear c28
         replace H := Option.bind_eq_some_iff.mp H
         obtain ⟨t173, A290, H⟩ := H
         replace H : (some (t173 == 0)) = some true := H
         have A29 := Aside0.mk A290
         clear A290
         have HRT := Aside0.mk (Option.some.inj H)
         clear H
         go_wp2_with (first | ((with_reducible refine gate_callee (f := 13) rfl ?_); refine goesL_ (some 44) rfl rfl Try.func13 (by kernel_rfl) rfl #[.slice A0 l0.length c0, .int .i64 ji19] rfl (by (try simp only [List.map_toArray, List.map_cons, List.map_nil]); first | done | (simp only [hji19]; rfl) | rfl | (simp only [List.length_drop, List.length_take]; rfl)) ?_; (with_reducible refine (version_Value.calls _ _ l0 ji19 t162 t163 _ ?side1 ?side2 A20.out).mono ?_); (case side1 => repeat (first | exact (Kd.C_below HR0.out HB.out) | (with_reducible refine Kd.C_alloc ?_ _) | (with_reducible refine Kd.C_drewN ?_ _) | (with_reducible refine Kd.C_drew ?_))); (case side2 => exact HC0.out); rintro e w30 ⟨rfl, hb⟩; refine ⟨_, rfl, ?_⟩; have n0_ := Aside0.mk (Kd.R_below (by (with_reducible repeat (first | apply Kd.R_alloc | apply Kd.R_drewN | apply Kd.R_drew)); exact HO_7.out) hb); have n1_ := Aside0.mk (Kd.R_below (by (with_reducible repeat (first | apply Kd.R_alloc | apply Kd.R_drewN | apply Kd.R_drew)); exact HO_8.out) hb); have n2_ := Aside0.mk (below_step (by repeat (first | (with_reducible first | exact HB.out | apply below_alloc | apply pw_below_drewN | apply below_drew1) | exact HB.out)) hb); clear HO_7; clear HO_8; clear HB; have HO_7 := n0_; have HO_8 := n1_; have HB := n2_; clear n0_ n1_ n2_; (try clear hb); (try clear hb2); (try clear hk); (try clear hi); obtain ⟨Ao31, co31, eo31⟩ := Kd.R_slice HO_7.out; subst eo31) | ((with_reducible refine gate_callee (f := 13) rfl ?_); refine goesL_ (some 52) rfl rfl Try.func13 (by kernel_rfl) rfl #[.slice Ao31 t153.length co31, .int .i64 ji19] rfl (by (try simp only [List.map_toArray, List.map_cons, List.map_nil]); first | done | (simp only [hji19]; rfl) | rfl | (simp only [List.length_drop, List.length_take]; rfl)) ?_; (with_reducible refine (version_Value.calls _ _ t153 ji19 t164 t165 _ ?side1 ?side2 A21.out).mono ?_); (case side1 => repeat (first | exact (Kd.R_reads' HO_7.out).2.2 | (with_reducible refine Kd.C_alloc ?_ _) | (with_reducible refine Kd.C_drewN ?_ _) | (with_reducible refine Kd.C_drew ?_))); (case side2 => exact (Kd.R_reads' HO_7.out).2.1); rintro e w32 ⟨rfl, hb⟩; refine ⟨_, rfl, ?_⟩; have n0_ := Aside0.mk (Kd.R_below (by (with_reducible repeat (first | apply Kd.R_alloc | apply Kd.R_drewN | apply Kd.R_drew)); exact HO_7.out) hb); have n1_ := Aside0.mk (Kd.R_below (by (with_reducible repeat (first | apply Kd.R_alloc | apply Kd.R_drewN | apply Kd.R_drew)); exact HO_8.out) hb); have n2_ := Aside0.mk (below_step (by repeat (first | (with_reducible first | exact HB.out | apply below_alloc | apply pw_below_drewN | apply below_drew1) | exact HB.out)) hb); clear HO_7; clear HO_8; clear HB; have HO_7 := n0_; have HO_8 := n1_; have HB := n2_; clear n0_ n1_ n2_; (try clear hb); (try clear hb2); (try clear hk); (try clear hi)) | ((with_reducible refine gate_callee (f := 10) rfl ?_); refine goesL_ (some 58) rfl rfl Try.func10 (by kernel_rfl) rfl #[.slice Ao31 t153.length co31, .int .i64 a1] rfl (by (try simp only [List.map_toArray, List.map_cons, List.map_nil]); first | done | rfl | (simp only [List.length_drop, List.length_take]; rfl)) ?_; (with_reducible refine (version_Prune.calls kj4 _ _ t153 a1 t166 t167 _ ?side1 ?side2 A22.out).mono ?_); (case side1 => repeat (first | exact (Kd.R_reads' HO_7.out).2.2 | (with_reducible refine Kd.C_alloc ?_ _) | (with_reducible refine Kd.C_drewN ?_ _) | (with_reducible refine Kd.C_drew ?_))); (case side2 => exact (Kd.R_reads' HO_7.out).2.1); rintro e w33 ⟨v168, v170, rfl, ho0, ho1, hb⟩; refine ⟨_, rfl, ?_⟩; have n0_ := Aside0.mk (Kd.R_mono (Kd.R_told (Kd.R_told (Kd.R_old (by (with_reducible repeat (first | apply Kd.R_alloc | apply Kd.R_drewN | apply Kd.R_drew)); exact HO_7.out) hb) (Kd.R_base ho0)) (Kd.R_base ho1)) (fun _ h_ => h_.1)); have n1_ := Aside0.mk (Kd.R_mono (Kd.R_told (Kd.R_told (Kd.R_old (by (with_reducible repeat (first | apply Kd.R_alloc | apply Kd.R_drewN | apply Kd.R_drew)); exact HO_8.out) hb) (Kd.R_base ho0)) (Kd.R_base ho1)) (fun _ h_ => h_.1)); have n2_ := Aside0.mk (Kd.R_lower (Kd.R_new' (Kd.R_new' ho0 (Kd.R_lt (by (with_reducible repeat (first | apply Kd.R_alloc | apply Kd.R_drewN | apply Kd.R_drew)); exact HO_7.out))) (Kd.R_lt (by (with_reducible repeat (first | apply Kd.R_alloc | apply Kd.R_drewN | apply Kd.R_drew)); exact HO_8.out))) (below_size (by repeat (first | (with_reducible first | exact HB.out | apply below_alloc | apply pw_below_drewN | apply below_drew1) | exact HB.out)))); have n3_ := Aside0.mk (Kd.R_lower (Kd.R_new' (Kd.R_new' ho1 (Kd.R_lt (by (with_reducible repeat (first | apply Kd.R_alloc | apply Kd.R_drewN | apply Kd.R_drew)); exact HO_7.out))) (Kd.R_lt (by (with_reducible repeat (first | apply Kd.R_alloc | apply Kd.R_drewN | apply Kd.R_drew)); exact HO_8.out))) (below_size (by repeat (first | (with_reducible first | exact HB.out | apply below_alloc | apply pw_below_drewN | apply below_drew1) | exact HB.out)))); have n4_ := Aside0.mk (below_step (by repeat (first | (with_reducible first | exact HB.out | apply below_alloc | apply pw_below_drewN | apply below_drew1) | exact HB.out)) hb); clear HO_7; clear HO_8; clear HB; have HO_7 := n0_; have HO_8 := n1_; have HO169 := n2_; have HO171 := n3_; have HB := n4_; clear n0_ n1_ n2_ n3_ n4_; (try clear hb); (try clear hb2); (try clear hk); (try clear hi); (try clear ho0); (try clear ho1); obtain ⟨Ao34, co34, eo34⟩ := Kd.R_slice HO169.out; subst eo34) | (go_at_call 14; (with_reducible refine (cressetref15_Same.calls kj4 _ _ t166 _ _ t153 true _ ?side1 ?side2 ?side3 ?side4 A25.out).mono ?_); (case side1 => repeat (first | exact (Kd.R_reads' HO169.out).2.2 | (with_reducible refine Kd.C_alloc ?_ _) | (with_reducible refine Kd.C_drewN ?_ _) | (with_reducible refine Kd.C_drew ?_))); (case side2 => exact (Kd.R_reads' HO169.out).2.1); (case side3 => repeat (first | exact (Kd.R_reads' HO_7.out).2.2 | (with_reducible refine Kd.C_alloc ?_ _) | (with_reducible refine Kd.C_drewN ?_ _) | (with_reducible refine Kd.C_drew ?_))); (case side4 => exact (Kd.R_reads' HO_7.out).2.1); rintro e w' ⟨rfl, ⟨nd, rfl⟩⟩; obtain ⟨Ao35, co35, eo35⟩ := Kd.R_slice HO171.out; subst eo35; obtain ⟨Ao36, co36, eo36⟩ := Kd.R_slice HO_8.out; subst eo36) | (go_at_call 15; (with_reducible refine (version_Check.calls kj4 _ _ t153 t173 _ ?side1 ?side2 A29.out).mono ?_); (case side1 => repeat (first | exact (Kd.R_reads' HO_7.out).2.2 | (with_reducible refine Kd.C_alloc ?_ _) | (with_reducible refine Kd.C_drewN ?_ _) | (with_reducible refine Kd.C_drew ?_))); (case side2 => exact (Kd.R_reads' HO_7.out).2.1); rintro e w37 ⟨rfl, hb⟩; have n0_ := Aside0.mk (Kd.R_below (by (with_reducible repeat (first | apply Kd.R_alloc | apply Kd.R_drewN | apply Kd.R_drew)); exact HO_7.out) hb); have n1_ := Aside0.mk (Kd.R_below (by (with_reducible repeat (first | apply Kd.R_alloc | apply Kd.R_drewN | apply Kd.R_drew)); exact HO_8.out) hb); have n2_ := Aside0.mk (Kd.R_below (by (with_reducible repeat (first | apply Kd.R_alloc | apply Kd.R_drewN | apply Kd.R_drew)); exact HO169.out) hb); have n3_ := Aside0.mk (Kd.R_below (by (with_reducible repeat (first | apply Kd.R_alloc | apply Kd.R_drewN | apply Kd.R_drew)); exact HO171.out) hb); have n4_ := Aside0.mk (below_step (by repeat (first | (with_reducible first | exact HB.out | apply below_alloc | apply pw_below_drewN | apply below_drew1) | exact HB.out)) hb); clear HO_7; clear HO_8; clear HO169; clear HO171; clear HB; have HO_7 := n0_; have HO_8 := n1_; have HO169 := n2_; have HO171 := n3_; have HB := n4_; clear n0_ n1_ n2_ n3_ n4_; (try clear hb); (try clear hb2); (try clear hk); (try clear hi)))
         go_ret
         exact ⟨by first | exact congrArg (fun b_ => Ending.returned (.bool b_)) HRT.out | exact congrArg (fun b_ => Ending.returned (.bool b_)) (by simpa using HRT.out) | rfl | (simp [errW_none, errW_some] <;> rfl) | (simp only [← hji19]; first | rfl | (simp [errW_none, errW_some] <;> rfl)) | (simp [*, errW_none, errW_some] <;> rfl), by repeat (first | (with_reducible first | exact HB.out | apply below_alloc | apply pw_below_drewN | apply below_drew1) | exact HB.out)⟩
        ·
         rw [if_neg c28] at H
         have c28b0 : ((wrap64 ((t153.length : Int) + (t154.length : Int))) == (l0.length : Int)) = false := beq_eq_false_iff_ne.mpr c28
         have c28b1 : ((wrap64 ((t153.length : Int) + (t154.length : Int))) != (l0.length : Int)) = true := bne_iff_ne.mpr c28
         exact absurd H (by simp)
       ·
        rw [if_neg c27] at H
        have c27b0 : ((t167.length : Int) == 0) = false := beq_eq_false_iff_ne.mpr c27
        have c27b1 : ((t167.length : Int) != 0) = true := bne_iff_ne.mpr c27
        have c27b2 : ¬ (t167 = []) := fun h_ => c27 (by rw [h_]; rfl)
        exact absurd H (by simp)
      ·
       replace c26 := Bool.eq_false_iff.mpr c26
       subst c26
       have H1 : (some false) = some true := by rw [if_neg (show ¬ (false = true) by decide)] at H; first | done | exact H
       clear H
       have H := H1
       clear H1
       exact absurd H (by simp)
     ·
      rw [if_neg c24] at H
      have c24b0 : (t163 == t165) = false := by simpa using c24
      (try (have c24b1 : decide (t163 = t165) = false := by simpa using c24))
      (try (have c24b2 : (t163 == t165) = false := by simpa using c24))
      (try (have c24b3 : ¬ (t163 = t165) := by simpa using c24))
      clear c24
      exact absurd H (by simp)
    ·
     rw [if_neg c23] at H
     have c23b0 : (t162.toList == t164.toList) = false := beq_eq_false_iff_ne.mpr c23
     have c23b1 : (t162.toList != t164.toList) = true := bne_iff_ne.mpr c23
     exact absurd H (by simp)

/-- THE ONE PURE STATEMENT of cressetlaw15_VersionPrunes: yours. -/
def cressetlaw15_VersionPrunes.Pure : Prop := ∀ (l0 : List (S33)) (a1 : Int) (a2 : Int), (l0.length ≤ maxLen ∧ l0.length * 32 ≤ 140737488351232 ∧ ∀ x_ ∈ l0, ok33 x_) → (Lit.int .i64 a1).wf = true → (Lit.int .i64 a2).wf = true → ∃ k, cressetlaw15_VersionPrunes.f k l0 a1 a2 = some true
theorem cressetlaw15_VersionPrunes.walk (P : cressetlaw15_VersionPrunes.Pure) (A0 : Option Addr) (c0 : Nat) (l0 : List (S33)) (a1 : Int) (a2 : Int) (w : World) (hr0 : Kd.C k33 w A0 l0.length l0) (hc0 : l0.length ≤ c0) (w0 : (l0.length ≤ maxLen ∧ l0.length * 32 ≤ 140737488351232 ∧ ∀ x_ ∈ l0, ok33 x_)) (w1 : (Lit.int .i64 a1).wf = true) (w2 : (Lit.int .i64 a2).wf = true) :
  Calls Try.prog 3 #[.slice A0 l0.length c0, .int .i64 a1, .int .i64 a2] w fun e w' => e = .returned (.bool true) ∧ Below w.heap.size w w' := by
 obtain ⟨k, h⟩ := P l0 a1 a2 w0 w1 w2
 refine (cressetlaw15_VersionPrunes.calls k A0 c0 l0 a1 a2 w hr0 hc0 h).mono ?_
 rintro e w' ⟨rfl, hd⟩
 exact ⟨rfl, hd⟩

end Go.Proofs.Ytpakolohhoegfaa.B

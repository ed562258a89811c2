-- Written by a program of this session (wip/print2) out of Lean's print of the translation. Not trusted: Lean checks it.
import Derived.Test.YtpakolohhoegfaaBx0
import Derived.Test.YtpakolohhoegfaaBx1
import Derived.Test.YtpakolohhoegfaaBx4
import Derived.Test.YtpakolohhoegfaaBx5
import Derived.Test.YtpakolohhoegfaaBx6
import Derived.Test.YtpakolohhoegfaaBx7
import Derived.Test.YtpakolohhoegfaaBx9
namespace Go.Proofs.Ytpakolohhoegfaa.B
open Go.RowKit Go.Proofs.YtpakolohhoegfaaW.PrintWords Go.Proofs.YtpakolohhoegfaaW.PrintLast Go.Proofs.YtpakolohhoegfaaW.PrintMore Go.Proofs.YtpakolohhoegfaaW.Mine
attribute [local go_sem] max2_int min2_int max_two min_two max_three min_three max_four min_four str_gtr str_leq str_geq str_max str_min   -- for this text's walks alone
set_option linter.unusedVariables false
set_option linter.unusedSimpArgs false

attribute [local go_sem high] eqA33
/-! ### cressetlaw15_VersionAsks: function 4 -/
def cressetlaw15_VersionAsks.f (k : Nat) (l0 : List (S33)) (a1 : Int) (l2 : List (S33)) : Option (Bool) := (version_At.f l0 a1).bind fun bt185 => ((cressetref15_At.f k l0 a1).bind fun bt190 => ((version_Value.f l0 a1).bind fun bt195 => ((cressetref15_Value.f k l0 a1).bind fun bt197 => ((cressetlaw15_live.f k).bind fun t199 => (if t199 = true then ((version_Check.f k l0).bind fun t200 => ((cressetref15_Check.f k l0).bind fun t201 => (if t200 = t201 then (if (bt185.1 == bt190.1 && (bt185.2.1.toList == bt190.2.1.toList && (bt185.2.2.1 == bt190.2.2.1))) = true then (if (bt185.2.2.2 == bt190.2.2.2) = true then (if bt195.1.toList = bt197.1.toList then (if (bt195.2 == bt197.2) = true then ((version_Same.f k l0 l2).bind fun t202 => ((cressetref15_Same.f k l0 l2).bind fun t203 => (if (t202 == t203) = true then ((version_Same.f k l0 l0).bind fun t204 => (some t204)) else (some false)))) else (some false)) else (some false)) else (some false)) else (some false)) else (some false)))) else (some false))))))
theorem cressetlaw15_VersionAsks.mono : ∀ a0 a1 a2 k, LeO (cressetlaw15_VersionAsks.f k a0 a1 a2) (cressetlaw15_VersionAsks.f (k + 1) a0 a1 a2) := by
  intro a0 a1 a2 k
  unfold cressetlaw15_VersionAsks.f
  repeat' first
      | (with_reducible exact cressetlaw15_live.mono _)
      | (with_reducible exact cressetref15_At.mono _ _ _)
      | (with_reducible exact cressetref15_Check.mono _ _)
      | (with_reducible exact cressetref15_Same.mono _ _ _)
      | (with_reducible exact cressetref15_Value.mono _ _ _)
      | (with_reducible exact version_Check.mono _ _)
      | (with_reducible exact version_Same.mono _ _ _)
      | (with_reducible exact LeO.refl _)
      | (with_reducible exact LeO.none _)
      | (with_reducible refine LeO.ite ?_ ?_)
      | (with_reducible refine LeO.bind ?_ (fun _ => ?_))
      | exact cressetlaw15_live.mono _
      | exact cressetref15_At.mono _ _ _
      | exact cressetref15_Check.mono _ _
      | exact cressetref15_Same.mono _ _ _
      | exact cressetref15_Value.mono _ _ _
      | exact version_Check.mono _ _
      | exact version_Same.mono _ _ _
      | exact LeO.none _
      | refine LeO.ite ?_ ?_
      | refine LeO.bind ?_ (fun _ => ?_)
set_option maxHeartbeats 8000000 in
set_option maxRecDepth 100000 in
theorem cressetlaw15_VersionAsks.calls (k : Nat) (A0 : Option Addr) (c0 : Nat) (l0 : List (S33)) (a1 : Int) (A2 : Option Addr) (c2 : Nat) (l2 : List (S33)) (w : World) (hr0 : Kd.C k33 w A0 l0.length l0) (hc0 : l0.length ≤ c0) (hr2 : Kd.C k33 w A2 l2.length l2) (hc2 : l2.length ≤ c2) (h : cressetlaw15_VersionAsks.f k l0 a1 l2 = some true) :
    Calls Try.prog 4 #[.slice A0 l0.length c0, .int .i64 a1, .slice A2 l2.length c2] w fun e w' => e = .returned (.bool true) ∧ Below w.heap.size w w' := by
 have hu33 := Try.underlying33
 have HR0 := Aside0.mk hr0
 have HC0 := Aside0.mk hc0
 clear hr0 hc0
 have HR2 := Aside0.mk hr2
 have HC2 := Aside0.mk hc2
 clear hr2 hc2
 have HB := Aside0.mk (Below.refl w.heap.size w)
 have H : ((version_At.f l0 a1).bind fun bt185 => ((cressetref15_At.f k l0 a1).bind fun bt190 => ((version_Value.f l0 a1).bind fun bt195 => ((cressetref15_Value.f k l0 a1).bind fun bt197 => ((cressetlaw15_live.f k).bind fun t199 => (if t199 = true then ((version_Check.f k l0).bind fun t200 => ((cressetref15_Check.f k l0).bind fun t201 => (if t200 = t201 then (if (bt185.1 == bt190.1 && (bt185.2.1.toList == bt190.2.1.toList && (bt185.2.2.1 == bt190.2.2.1))) = true then (if (bt185.2.2.2 == bt190.2.2.2) = true then (if bt195.1.toList = bt197.1.toList then (if (bt195.2 == bt197.2) = true then ((version_Same.f k l0 l2).bind fun t202 => ((cressetref15_Same.f k l0 l2).bind fun t203 => (if (t202 == t203) = true then ((version_Same.f k l0 l0).bind fun t204 => (some t204)) else (some false)))) else (some false)) else (some false)) else (some false)) else (some false)) else (some false)))) else (some false))))))) = some true := h
 clear h
 replace H := Option.bind_eq_some_iff.mp H
 obtain ⟨⟨t185, t186, t187, t188⟩, A40, H⟩ := H
 replace H : ((cressetref15_At.f k l0 a1).bind fun bt190 => ((version_Value.f l0 a1).bind fun bt195 => ((cressetref15_Value.f k l0 a1).bind fun bt197 => ((cressetlaw15_live.f k).bind fun t199 => (if t199 = true then ((version_Check.f k l0).bind fun t200 => ((cressetref15_Check.f k l0).bind fun t201 => (if t200 = t201 then (if (t185 == bt190.1 && (t186.toList == bt190.2.1.toList && (t187 == bt190.2.2.1))) = true then (if (t188 == bt190.2.2.2) = true then (if bt195.1.toList = bt197.1.toList then (if (bt195.2 == bt197.2) = true then ((version_Same.f k l0 l2).bind fun t202 => ((cressetref15_Same.f k l0 l2).bind fun t203 => (if (t202 == t203) = true then ((version_Same.f k l0 l0).bind fun t204 => (some t204)) else (some false)))) else (some false)) else (some false)) else (some false)) else (some false)) else (some false)))) else (some false)))))) = some true := H
 have A4 := Aside0.mk A40
 clear A40
 replace H := Option.bind_eq_some_iff.mp H
 obtain ⟨⟨t190, t191, t192, t193⟩, A50, H⟩ := H
 replace H : ((version_Value.f l0 a1).bind fun bt195 => ((cressetref15_Value.f k l0 a1).bind fun bt197 => ((cressetlaw15_live.f k).bind fun t199 => (if t199 = true then ((version_Check.f k l0).bind fun t200 => ((cressetref15_Check.f k l0).bind fun t201 => (if t200 = t201 then (if (t185 == t190 && (t186.toList == t191.toList && (t187 == t192))) = true then (if (t188 == t193) = true then (if bt195.1.toList = bt197.1.toList then (if (bt195.2 == bt197.2) = true then ((version_Same.f k l0 l2).bind fun t202 => ((cressetref15_Same.f k l0 l2).bind fun t203 => (if (t202 == t203) = true then ((version_Same.f k l0 l0).bind fun t204 => (some t204)) else (some false)))) else (some false)) else (some false)) else (some false)) else (some false)) else (some false)))) else (some false))))) = some true := H
 have A5 := Aside0.mk A50
 clear A50
 replace H := Option.bind_eq_some_iff.mp H
 obtain ⟨⟨t195, t196⟩, A60, H⟩ := H
 replace H : ((cressetref15_Value.f k l0 a1).bind fun bt197 => ((cressetlaw15_live.f k).bind fun t199 => (if t199 = true then ((version_Check.f k l0).bind fun t200 => ((cressetref15_Check.f k l0).bind fun t201 => (if t200 = t201 then (if (t185 == t190 && (t186.toList == t191.toList && (t187 == t192))) = true then (if (t188 == t193) = true then (if t195.toList = bt197.1.toList then (if (t196 == bt197.2) = true then ((version_Same.f k l0 l2).bind fun t202 => ((cressetref15_Same.f k l0 l2).bind fun t203 => (if (t202 == t203) = true then ((version_Same.f k l0 l0).bind fun t204 => (some t204)) else (some false)))) else (some false)) else (some false)) else (some false)) else (some false)) else (some false)))) else (some false)))) = some true := H
 have A6 := Aside0.mk A60
 clear A60
 replace H := Option.bind_eq_some_iff.mp H
 obtain ⟨⟨t197, t198⟩, A70, H⟩ := H
 replace H : ((cressetlaw15_live.f k).bind fun t199 => (if t199 = true then ((version_Check.f k l0).bind fun t200 => ((cressetref15_Check.f k l0).bind fun t201 => (if t200 = t201 then (if (t185 == t190 && (t186.toList == t191.toList && (t187 == t192))) = true then (if (t188 == t193) = true then (if t195.toList = t197.toList then (if (t196 == t198) = true then ((version_Same.f k l0 l2).bind fun t202 => ((cressetref15_Same.f k l0 l2).bind fun t203 => (if (t202 == t203) = true then ((version_Same.f k l0 l0).bind fun t204 => (some t204)) else (some false)))) else (some false)) else (some false)) else (some false)) else (some false)) else (some false)))) else (some false))) = some true := H
 have A7 := Aside0.mk A70
 clear A70
 replace H := Option.bind_eq_some_iff.mp H
 obtain ⟨t199, A80, H⟩ := H
 replace H : (if t199 = true then ((version_Check.f k l0).bind fun t200 => ((cressetref15_Check.f k l0).bind fun t201 => (if t200 = t201 then (if (t185 == t190 && (t186.toList == t191.toList && (t187 == t192))) = true then (if (t188 == t193) = true then (if t195.toList = t197.toList then (if (t196 == t198) = true then ((version_Same.f k l0 l2).bind fun t202 => ((cressetref15_Same.f k l0 l2).bind fun t203 => (if (t202 == t203) = true then ((version_Same.f k l0 l0).bind fun t204 => (some t204)) else (some false)))) else (some false)) else (some false)) else (some false)) else (some false)) else (some false)))) else (some false)) = some true := H
 have A8 := Aside0.mk A80
 clear A80
 by_cases c9 : t199 = true
 ·
  subst c9
  have H1 : ((version_Check.f k l0).bind fun t200 => ((cressetref15_Check.f k l0).bind fun t201 => (if t200 = t201 then (if (t185 == t190 && (t186.toList == t191.toList && (t187 == t192))) = true then (if (t188 == t193) = true then (if t195.toList = t197.toList then (if (t196 == t198) = true then ((version_Same.f k l0 l2).bind fun t202 => ((cressetref15_Same.f k l0 l2).bind fun t203 => (if (t202 == t203) = true then ((version_Same.f k l0 l0).bind fun t204 => (some t204)) else (some false)))) else (some false)) else (some false)) else (some false)) else (some false)) else (some false)))) = some true := by rw [if_pos rfl] at H; first | done | exact H
  clear H
  have H := H1
  clear H1
  replace H := Option.bind_eq_some_iff.mp H
  obtain ⟨t200, A100, H⟩ := H
  replace H : ((cressetref15_Check.f k l0).bind fun t201 => (if t200 = t201 then (if (t185 == t190 && (t186.toList == t191.toList && (t187 == t192))) = true then (if (t188 == t193) = true then (if t195.toList = t197.toList then (if (t196 == t198) = true then ((version_Same.f k l0 l2).bind fun t202 => ((cressetref15_Same.f k l0 l2).bind fun t203 => (if (t202 == t203) = true then ((version_Same.f k l0 l0).bind fun t204 => (some t204)) else (some false)))) else (some false)) else (some false)) else (some false)) else (some false)) else (some false))) = some true := H
  have A10 := Aside0.mk A100
  clear A100
  replace H := Option.bind_eq_some_iff.mp H
  obtain ⟨t201, A110, H⟩ := H
  replace H : (if t200 = t201 then (if (t185 == t190 && (t186.toList == t191.toList && (t187 == t192))) = true then (if (t188 == t193) = true then (if t195.toList = t197.toList then (if (t196 == t198) = true then ((version_Same.f k l0 l2).bind fun t202 => ((cressetref15_Same.f k l0 l2).bind fun t203 => (if (t202 == t203) = true then ((version_Same.f k l0 l0).bind fun t204 => (some t204)) else (some false)))) else (some false)) else (some false)) else (some false)) else (some false)) else (some false)) = some true := H
  have A11 := Aside0.mk A110
  clear A110
  by_cases c12 : t200 = t201
  ·
   rw [if_pos c12] at H
   have c12b0 : (t200 == t201) = true := beq_iff_eq.mpr c12
   have c12b1 : (t200 != t201) = false := bne_eq_false_iff_eq.mpr c12
   clear c12
   by_cases c13 : (t185 == t190 && (t186.toList == t191.toList && (t187 == t192))) = true
   ·
    rw [if_pos c13] at H
    have c13b0 : (t185 == t190 && (t186.toList == t191.toList && (t187 == t192))) = true := c13
    (try (have c13b1 : decide (t185 = t190 && (t186.toList == t191.toList && (t187 == t192))) = true := by simpa using c13))
    (try (have c13b2 : (t185 == t190 && (t186.toList == t191.toList && (t187 == t192))) = true := by simpa using c13))
    clear c13
    by_cases c14 : (t188 == t193) = true
    ·
     rw [if_pos c14] at H
     have c14b0 : (t188 == t193) = true := c14
     (try (have c14b1 : decide (t188 = t193) = true := by simpa using c14))
     (try (have c14b2 : (t188 == t193) = true := by simpa using c14))
     clear c14
     by_cases c15 : t195.toList = t197.toList
     ·
      rw [if_pos c15] at H
      have c15b0 : (t195.toList == t197.toList) = true := beq_iff_eq.mpr c15
      have c15b1 : (t195.toList != t197.toList) = false := bne_eq_false_iff_eq.mpr c15
      clear c15
      by_cases c16 : (t196 == t198) = true
      ·
       rw [if_pos c16] at H
       have c16b0 : (t196 == t198) = true := c16
       (try (have c16b1 : decide (t196 = t198) = true := by simpa using c16))
       (try (have c16b2 : (t196 == t198) = true := by simpa using c16))
       clear c16
       replace H := Option.bind_eq_some_iff.mp H
       obtain ⟨t202, A170, H⟩ := H
       replace H : ((cressetref15_Same.f k l0 l2).bind fun t203 => (if (t202 == t203) = true then ((version_Same.f k l0 l0).bind fun t204 => (some t204)) else (some false))) = some true := H
       have A17 := Aside0.mk A170
       clear A170
       replace H := Option.bind_eq_some_iff.mp H
       obtain ⟨t203, A180, H⟩ := H
       replace H : (if (t202 == t203) = true then ((version_Same.f k l0 l0).bind fun t204 => (some t204)) else (some false)) = some true := H
       have A18 := Aside0.mk A180
       clear A180
       by_cases c19 : (t202 == t203) = true
       ·
        rw [if_pos c19] at H
        have c19b0 : (t202 == t203) = true := c19
        (try (have c19b1 : decide (t202 = t203) = true := by simpa using c19))
        (try (have c19b2 : (t202 == t203) = true := by simpa using c19))
        clear c19
        replace H := Option.bind_eq_some_iff.mp H
        obtain ⟨t204, A200, H⟩ := H
        replace H : (some t204) = some true := H
        have A20 := Aside0.mk A200
        clear A200
        have HRT := Aside0.mk (Option.some.inj H)
        clear H
        go_enter Try.func4, Try.ntmps4
        go_wp2_with (first | ((with_reducible refine gate_callee (f := 16) rfl ?_); refine goesL_ (some 18) rfl rfl Try.func16 (by kernel_rfl) rfl #[.slice A0 l0.length c0, .int .i64 a1] rfl (by (try simp only [List.map_toArray, List.map_cons, List.map_nil]); first | done | rfl | (simp only [List.length_drop, List.length_take]; rfl)) ?_; (with_reducible refine (version_At.calls _ _ l0 a1 t185 t186 t187 t188 _ ?side1 ?side2 A4.out).mono ?_); (case side1 => repeat (first | exact HR0.out | (with_reducible refine Kd.C_alloc ?_ _) | (with_reducible refine Kd.C_drewN ?_ _) | (with_reducible refine Kd.C_drew ?_))); (case side2 => exact HC0.out); rintro e w21 ⟨rfl, hb⟩; refine ⟨_, rfl, ?_⟩; have n0_ := Aside0.mk (below_step (by repeat (first | (with_reducible first | exact HB.out | apply below_alloc | apply pw_below_drewN | apply below_drew1) | exact HB.out)) hb); clear HB; have HB := n0_; clear n0_; (try clear hb); (try clear hb2); (try clear hk); (try clear hi)) | ((with_reducible refine gate_dst (N := 7) rfl ?_); refine box_event ?hg (N := 7) ?hd (cs := #[.int .i64 0, .string (⟨#[]⟩ : ByteArray), .bool false]) (t := 33) ?hr ?_; (case hd => rfl); (case hg => rfl); (case hr => first | (go_simp; done) | (go_simp; rfl)); intro gb189 hg w22 hbox hb; have n0_ := Aside0.mk (below_step (by repeat (first | (with_reducible first | exact HB.out | apply below_alloc | apply pw_below_drewN | apply below_drew1) | exact HB.out)) hb); have n1_ := Aside0.mk (hbox); have n2_ := Aside0.mk ((by rw [hg]; exact (below_size (by repeat (first | (with_reducible first | exact HB.out | apply below_alloc | apply pw_below_drewN | apply below_drew1) | exact HB.out))) : w.heap.size ≤ gb189)); have n3_ := Aside0.mk ((by rw [hg]; exact (below_size (by repeat (first | (with_reducible first | exact HB.out | apply below_alloc | apply pw_below_drewN | apply below_drew1) | exact HB.out))) : w.heap.size ≤ gb189)); clear HB; have HB := n0_; have BK189 := n1_; have GW189 := n2_; have GE189 := n3_; clear n0_ n1_ n2_ n3_; clear hb hbox hg; have hcz23_0 : w22.cell? ⟨gb189, 0, none⟩ = some (.int .i64 0) := (blk_cell BK189.out 0).trans rfl; have hcz23_1 : w22.cell? ⟨gb189, 1, none⟩ = some (.string (⟨#[]⟩ : ByteArray)) := (blk_cell BK189.out 1).trans rfl; have hcz23_2 : w22.cell? ⟨gb189, 2, none⟩ = some (.bool false) := (blk_cell BK189.out 2).trans rfl; have hfz23_0 := blk_frozen BK189.out 0; have hfz23_1 := blk_frozen BK189.out 1; have hfz23_2 := blk_frozen BK189.out 2) | ((with_reducible refine gate_callee (f := 17) rfl ?_); refine goesL_ (some 24) rfl rfl Try.func17 (by kernel_rfl) rfl #[.slice A0 l0.length c0, .int .i64 a1] rfl (by (try simp only [List.map_toArray, List.map_cons, List.map_nil]); first | done | rfl | (simp only [List.length_drop, List.length_take]; rfl)) ?_; (with_reducible refine (cressetref15_At.calls k _ _ l0 a1 t190 t191 t192 t193 _ ?side1 ?side2 A5.out).mono ?_); (case side1 => exact Kd.C_below HR0.out (by repeat (first | (with_reducible first | exact HB.out | apply below_alloc | apply pw_below_drewN | apply below_drew1 | refine below_set ?_ GE189.out) | exact HB.out))); (case side2 => exact HC0.out); rintro e w24 ⟨rfl, hb⟩; refine ⟨_, rfl, ?_⟩; have n0_ := Aside0.mk (blk_below (g := gb189) (o := .cells #[.int .i64 t185, .string t186, .bool t187] 33 (0, 0)) (by (with_reducible repeat (first | refine blk_drewN ?_ _ | refine blk_drew ?_ | refine blk_alloc ?_ _)); refine blk_put (cs := #[.int .i64 t185, .string t186, .bool false]) ?_ 2 _ rfl; (with_reducible repeat (first | refine blk_drewN ?_ _ | refine blk_drew ?_ | refine blk_alloc ?_ _)); refine blk_put (cs := #[.int .i64 t185, .string (⟨#[]⟩ : ByteArray), .bool false]) ?_ 1 _ rfl; (with_reducible repeat (first | refine blk_drewN ?_ _ | refine blk_drew ?_ | refine blk_alloc ?_ _)); refine blk_put (cs := #[.int .i64 0, .string (⟨#[]⟩ : ByteArray), .bool false]) ?_ 0 _ rfl; (with_reducible repeat (first | refine blk_drewN ?_ _ | refine blk_drew ?_ | refine blk_alloc ?_ _)); exact BK189.out) hb); have n1_ := Aside0.mk (below_step (by repeat (first | (with_reducible first | exact HB.out | apply below_alloc | apply pw_below_drewN | apply below_drew1 | refine below_set ?_ GE189.out) | exact HB.out)) hb); clear BK189; clear HB; have BK189 := n0_; have HB := n1_; clear n0_ n1_; (try clear hb); (try clear hb2); (try clear hk); (try clear hi)) | ((with_reducible refine gate_dst (N := 9) rfl ?_); refine box_event ?hg (N := 9) ?hd (cs := #[.int .i64 0, .string (⟨#[]⟩ : ByteArray), .bool false]) (t := 33) ?hr ?_; (case hd => rfl); (case hg => rfl); (case hr => first | (go_simp; done) | (go_simp; rfl)); intro gb194 hg w25 hbox hb; have n0_ := Aside0.mk (blk_below (g := gb189) (o := .cells #[.int .i64 t185, .string t186, .bool t187] 33 (0, 0)) (by (with_reducible repeat (first | refine blk_drewN ?_ _ | refine blk_drew ?_ | refine blk_alloc ?_ _)); exact BK189.out) hb); have n1_ := Aside0.mk (below_step (by repeat (first | (with_reducible first | exact HB.out | apply below_alloc | apply pw_below_drewN | apply below_drew1 | refine below_set ?_ GE189.out) | exact HB.out)) hb); have n2_ := Aside0.mk (hbox); have n3_ := Aside0.mk ((by rw [hg]; exact (below_size (by repeat (first | (with_reducible first | exact HB.out | apply below_alloc | apply pw_below_drewN | apply below_drew1 | refine below_set ?_ GE189.out) | exact HB.out))) : w.heap.size ≤ gb194)); have n4_ := Aside0.mk ((by rw [hg]; exact (below_size (by repeat (first | (with_reducible first | exact HB.out | apply below_alloc | apply pw_below_drewN | apply below_drew1 | refine below_set ?_ GE189.out) | exact HB.out))) : w.heap.size ≤ gb194)); have n5_ := Aside0.mk ((by rw [hg]; exact Nat.ne_of_lt (blk_lt (g := gb189) (o := .cells #[.int .i64 t185, .string t186, .bool t187] 33 (0, 0)) (by (with_reducible repeat (first | refine blk_drewN ?_ _ | refine blk_drew ?_ | refine blk_alloc ?_ _)); exact BK189.out)) : gb189 ≠ gb194)); have n6_ := Aside0.mk ((by rw [hg]; exact Nat.ne_of_gt (blk_lt (g := gb189) (o := .cells #[.int .i64 t185, .string t186, .bool t187] 33 (0, 0)) (by (with_reducible repeat (first | refine blk_drewN ?_ _ | refine blk_drew ?_ | refine blk_alloc ?_ _)); exact BK189.out)) : gb194 ≠ gb189)); clear BK189; clear HB; have BK189 := n0_; have HB := n1_; have BK194 := n2_; have GW194 := n3_; have GE194 := n4_; have NB189_194 := n5_; have NB194_189 := n6_; clear n0_ n1_ n2_ n3_ n4_ n5_ n6_; clear hb hbox hg; have hnb26 := NB194_189.out; have hnc26 := NB189_194.out; have hcz27_0 : w25.cell? ⟨gb194, 0, none⟩ = some (.int .i64 0) := (blk_cell BK194.out 0).trans rfl; have hcz27_1 : w25.cell? ⟨gb194, 1, none⟩ = some (.string (⟨#[]⟩ : ByteArray)) := (blk_cell BK194.out 1).trans rfl; have hcz27_2 : w25.cell? ⟨gb194, 2, none⟩ = some (.bool false) := (blk_cell BK194.out 2).trans rfl; have hfz27_0 := blk_frozen BK194.out 0; have hfz27_1 := blk_frozen BK194.out 1; have hfz27_2 := blk_frozen BK194.out 2) | ((with_reducible refine gate_callee (f := 13) rfl ?_); refine goesL_ (some 30) rfl rfl Try.func13 (by kernel_rfl) rfl #[.slice A0 l0.length c0, .int .i64 a1] rfl (by (try simp only [List.map_toArray, List.map_cons, List.map_nil]); first | done | rfl | (simp only [List.length_drop, List.length_take]; rfl)) ?_; (with_reducible refine (version_Value.calls _ _ l0 a1 t195 t196 _ ?side1 ?side2 A6.out).mono ?_); (case side1 => exact Kd.C_below HR0.out (by repeat (first | (with_reducible first | exact HB.out | apply below_alloc | apply pw_below_drewN | apply below_drew1 | refine below_set ?_ GE189.out | refine below_set ?_ GE194.out) | exact HB.out))); (case side2 => exact HC0.out); rintro e w28 ⟨rfl, hb⟩; refine ⟨_, rfl, ?_⟩; have n0_ := Aside0.mk (blk_below (g := gb189) (o := .cells #[.int .i64 t185, .string t186, .bool t187] 33 (0, 0)) (by (with_reducible repeat (first | refine blk_drewN ?_ _ | refine blk_drew ?_ | refine blk_alloc ?_ _)); refine blk_far ?_ NB189_194.out _; (with_reducible repeat (first | refine blk_drewN ?_ _ | refine blk_drew ?_ | refine blk_alloc ?_ _)); refine blk_far ?_ NB189_194.out _; (with_reducible repeat (first | refine blk_drewN ?_ _ | refine blk_drew ?_ | refine blk_alloc ?_ _)); refine blk_far ?_ NB189_194.out _; (with_reducible repeat (first | refine blk_drewN ?_ _ | refine blk_drew ?_ | refine blk_alloc ?_ _)); exact BK189.out) hb); have n1_ := Aside0.mk (blk_below (g := gb194) (o := .cells #[.int .i64 t190, .string t191, .bool t192] 33 (0, 0)) (by (with_reducible repeat (first | refine blk_drewN ?_ _ | refine blk_drew ?_ | refine blk_alloc ?_ _)); refine blk_put (cs := #[.int .i64 t190, .string t191, .bool false]) ?_ 2 _ rfl; (with_reducible repeat (first | refine blk_drewN ?_ _ | refine blk_drew ?_ | refine blk_alloc ?_ _)); refine blk_put (cs := #[.int .i64 t190, .string (⟨#[]⟩ : ByteArray), .bool false]) ?_ 1 _ rfl; (with_reducible repeat (first | refine blk_drewN ?_ _ | refine blk_drew ?_ | refine blk_alloc ?_ _)); refine blk_put (cs := #[.int .i64 0, .string (⟨#[]⟩ : ByteArray), .bool false]) ?_ 0 _ rfl; (with_reducible repeat (first | refine blk_drewN ?_ _ | refine blk_drew ?_ | refine blk_alloc ?_ _)); exact BK194.out) hb); have n2_ := Aside0.mk (below_step (by repeat (first | (with_reducible first | exact HB.out | apply below_alloc | apply pw_below_drewN | apply below_drew1 | refine below_set ?_ GE189.out | refine below_set ?_ GE194.out) | exact HB.out)) hb); clear BK189; clear BK194; clear HB; have BK189 := n0_; have BK194 := n1_; have HB := n2_; clear n0_ n1_ n2_; (try clear hb); (try clear hb2); (try clear hk); (try clear hi)) | ((with_reducible refine gate_callee (f := 18) rfl ?_); refine goesL_ (some 36) rfl rfl Try.func18 (by kernel_rfl) rfl #[.slice A0 l0.length c0, .int .i64 a1] rfl (by (try simp only [List.map_toArray, List.map_cons, List.map_nil]); first | done | rfl | (simp only [List.length_drop, List.length_take]; rfl)) ?_; (with_reducible refine (cressetref15_Value.calls k _ _ l0 a1 t197 t198 _ ?side1 ?side2 A7.out).mono ?_); (case side1 => repeat (first | exact (Kd.C_below HR0.out HB.out) | (with_reducible refine Kd.C_alloc ?_ _) | (with_reducible refine Kd.C_drewN ?_ _) | (with_reducible refine Kd.C_drew ?_))); (case side2 => exact HC0.out); rintro e w29 ⟨rfl, hb⟩; refine ⟨_, rfl, ?_⟩; have n0_ := Aside0.mk (blk_below (g := gb189) (o := .cells #[.int .i64 t185, .string t186, .bool t187] 33 (0, 0)) (by (with_reducible repeat (first | refine blk_drewN ?_ _ | refine blk_drew ?_ | refine blk_alloc ?_ _)); exact BK189.out) hb); have n1_ := Aside0.mk (blk_below (g := gb194) (o := .cells #[.int .i64 t190, .string t191, .bool t192] 33 (0, 0)) (by (with_reducible repeat (first | refine blk_drewN ?_ _ | refine blk_drew ?_ | refine blk_alloc ?_ _)); exact BK194.out) hb); have n2_ := Aside0.mk (below_step (by repeat (first | (with_reducible first | exact HB.out | apply below_alloc | apply pw_below_drewN | apply below_drew1 | refine below_set ?_ GE189.out | refine below_set ?_ GE194.out) | exact HB.out)) hb); clear BK189; clear BK194; clear HB; have BK189 := n0_; have BK194 := n1_; have HB := n2_; clear n0_ n1_ n2_; (try clear hb); (try clear hb2); (try clear hk); (try clear hi)) | ((with_reducible refine gate_callee (f := 12) rfl ?_); refine goesL_ (some 39) rfl rfl Try.func12 (by kernel_rfl) rfl #[] rfl (by (try simp only [List.map_toArray, List.map_cons, List.map_nil]); first | done | rfl | (simp only [List.length_drop, List.length_take]; rfl)) ?_; (with_reducible refine (cressetlaw15_live.calls k  true _ A8.out).mono ?_); rintro e w30 ⟨rfl, hb⟩; refine ⟨_, rfl, ?_⟩; have n0_ := Aside0.mk (blk_below (g := gb189) (o := .cells #[.int .i64 t185, .string t186, .bool t187] 33 (0, 0)) (by (with_reducible repeat (first | refine blk_drewN ?_ _ | refine blk_drew ?_ | refine blk_alloc ?_ _)); exact BK189.out) hb); have n1_ := Aside0.mk (blk_below (g := gb194) (o := .cells #[.int .i64 t190, .string t191, .bool t192] 33 (0, 0)) (by (with_reducible repeat (first | refine blk_drewN ?_ _ | refine blk_drew ?_ | refine blk_alloc ?_ _)); exact BK194.out) hb); have n2_ := Aside0.mk (below_step (by repeat (first | (with_reducible first | exact HB.out | apply below_alloc | apply pw_below_drewN | apply below_drew1 | refine below_set ?_ GE189.out | refine below_set ?_ GE194.out) | exact HB.out)) hb); clear BK189; clear BK194; clear HB; have BK189 := n0_; have BK194 := n1_; have HB := n2_; clear n0_ n1_ n2_; (try clear hb); (try clear hb2); (try clear hk); (try clear hi)) | (go_at_call 15; (with_reducible refine (version_Check.calls k _ _ l0 t200 _ ?side1 ?side2 A10.out).mono ?_); (case side1 => repeat (first | exact (Kd.C_below HR0.out HB.out) | (with_reducible refine Kd.C_alloc ?_ _) | (with_reducible refine Kd.C_drewN ?_ _) | (with_reducible refine Kd.C_drew ?_))); (case side2 => exact HC0.out); rintro e w31 ⟨rfl, hb⟩; have n0_ := Aside0.mk (blk_below (g := gb189) (o := .cells #[.int .i64 t185, .string t186, .bool t187] 33 (0, 0)) (by (with_reducible repeat (first | refine blk_drewN ?_ _ | refine blk_drew ?_ | refine blk_alloc ?_ _)); exact BK189.out) hb); have n1_ := Aside0.mk (blk_below (g := gb194) (o := .cells #[.int .i64 t190, .string t191, .bool t192] 33 (0, 0)) (by (with_reducible repeat (first | refine blk_drewN ?_ _ | refine blk_drew ?_ | refine blk_alloc ?_ _)); exact BK194.out) hb); have n2_ := Aside0.mk (below_step (by repeat (first | (with_reducible first | exact HB.out | apply below_alloc | apply pw_below_drewN | apply below_drew1 | refine below_set ?_ GE189.out | refine below_set ?_ GE194.out) | exact HB.out)) hb); clear BK189; clear BK194; clear HB; have BK189 := n0_; have BK194 := n1_; have HB := n2_; clear n0_ n1_ n2_; (try clear hb); (try clear hb2); (try clear hk); (try clear hi)) | (go_at_call 11; (with_reducible refine (cressetref15_Check.calls k _ _ l0 t201 _ ?side1 ?side2 A11.out).mono ?_); (case side1 => repeat (first | exact (Kd.C_below HR0.out HB.out) | (with_reducible refine Kd.C_alloc ?_ _) | (with_reducible refine Kd.C_drewN ?_ _) | (with_reducible refine Kd.C_drew ?_))); (case side2 => exact HC0.out); rintro e w32 ⟨rfl, hb⟩; have n0_ := Aside0.mk (blk_below (g := gb189) (o := .cells #[.int .i64 t185, .string t186, .bool t187] 33 (0, 0)) (by (with_reducible repeat (first | refine blk_drewN ?_ _ | refine blk_drew ?_ | refine blk_alloc ?_ _)); exact BK189.out) hb); have n1_ := Aside0.mk (blk_below (g := gb194) (o := .cells #[.int .i64 t190, .string t191, .bool t192] 33 (0, 0)) (by (with_reducible repeat (first | refine blk_drewN ?_ _ | refine blk_drew ?_ | refine blk_alloc ?_ _)); exact BK194.out) hb); have n2_ := Aside0.mk (below_step (by repeat (first | (with_reducible first | exact HB.out | apply below_alloc | apply pw_below_drewN | apply below_drew1 | refine below_set ?_ GE189.out | refine below_set ?_ GE194.out) | exact HB.out)) hb); clear BK189; clear BK194; clear HB; have BK189 := n0_; have BK194 := n1_; have HB := n2_; clear n0_ n1_ n2_; (try clear hb); (try clear hb2); (try clear hk); (try clear hi); have hcz33_0 : w32.cell? ⟨gb189, 0, none⟩ = some (.int .i64 t185) := (blk_cell BK189.out 0).trans rfl; have hcz33_1 : w32.cell? ⟨gb189, 1, none⟩ = some (.string t186) := (blk_cell BK189.out 1).trans rfl; have hcz33_2 : w32.cell? ⟨gb189, 2, none⟩ = some (.bool t187) := (blk_cell BK189.out 2).trans rfl; have hfz33_0 := blk_frozen BK189.out 0; have hfz33_1 := blk_frozen BK189.out 1; have hfz33_2 := blk_frozen BK189.out 2; have hcz34_0 : w32.cell? ⟨gb194, 0, none⟩ = some (.int .i64 t190) := (blk_cell BK194.out 0).trans rfl; have hcz34_1 : w32.cell? ⟨gb194, 1, none⟩ = some (.string t191) := (blk_cell BK194.out 1).trans rfl; have hcz34_2 : w32.cell? ⟨gb194, 2, none⟩ = some (.bool t192) := (blk_cell BK194.out 2).trans rfl; have hfz34_0 := blk_frozen BK194.out 0; have hfz34_1 := blk_frozen BK194.out 1; have hfz34_2 := blk_frozen BK194.out 2) | (go_at_call 19; (with_reducible refine (version_Same.calls k _ _ l0 _ _ l2 t202 _ ?side1 ?side2 ?side3 ?side4 A17.out).mono ?_); (case side1 => repeat (first | exact (Kd.C_below HR0.out HB.out) | (with_reducible refine Kd.C_alloc ?_ _) | (with_reducible refine Kd.C_drewN ?_ _) | (with_reducible refine Kd.C_drew ?_))); (case side2 => exact HC0.out); (case side3 => repeat (first | exact (Kd.C_below HR2.out HB.out) | (with_reducible refine Kd.C_alloc ?_ _) | (with_reducible refine Kd.C_drewN ?_ _) | (with_reducible refine Kd.C_drew ?_))); (case side4 => exact HC2.out); rintro e w' ⟨rfl, ⟨nd, rfl⟩⟩) | (go_at_call 14; (with_reducible refine (cressetref15_Same.calls k _ _ l0 _ _ l2 t203 _ ?side1 ?side2 ?side3 ?side4 A18.out).mono ?_); (case side1 => repeat (first | exact (Kd.C_below HR0.out (by repeat (first | (with_reducible first | exact HB.out | apply below_alloc | apply pw_below_drewN | apply below_drew1 | refine below_set ?_ GE189.out | refine below_set ?_ GE194.out) | exact HB.out))) | (with_reducible refine Kd.C_alloc ?_ _) | (with_reducible refine Kd.C_drewN ?_ _) | (with_reducible refine Kd.C_drew ?_))); (case side2 => exact HC0.out); (case side3 => repeat (first | exact (Kd.C_below HR2.out (by repeat (first | (with_reducible first | exact HB.out | apply below_alloc | apply pw_below_drewN | apply below_drew1 | refine below_set ?_ GE189.out | refine below_set ?_ GE194.out) | exact HB.out))) | (with_reducible refine Kd.C_alloc ?_ _) | (with_reducible refine Kd.C_drewN ?_ _) | (with_reducible refine Kd.C_drew ?_))); (case side4 => exact HC2.out); rintro e w' ⟨rfl, ⟨nd, rfl⟩⟩) | (go_at_call 19; (with_reducible refine (version_Same.calls k _ _ l0 _ _ l0 t204 _ ?side1 ?side2 ?side3 ?side4 A20.out).mono ?_); (case side1 => repeat (first | exact (Kd.C_below HR0.out (by repeat (first | (with_reducible first | exact HB.out | apply below_alloc | apply pw_below_drewN | apply below_drew1 | refine below_set ?_ GE189.out | refine below_set ?_ GE194.out) | exact HB.out))) | (with_reducible refine Kd.C_alloc ?_ _) | (with_reducible refine Kd.C_drewN ?_ _) | (with_reducible refine Kd.C_drew ?_))); (case side2 => exact HC0.out); (case side3 => repeat (first | exact (Kd.C_below HR0.out (by repeat (first | (with_reducible first | exact HB.out | apply below_alloc | apply pw_below_drewN | apply below_drew1 | refine below_set ?_ GE189.out | refine below_set ?_ GE194.out) | exact HB.out))) | (with_reducible refine Kd.C_alloc ?_ _) | (with_reducible refine Kd.C_drewN ?_ _) | (with_reducible refine Kd.C_drew ?_))); (case side4 => exact HC0.out); rintro e w' ⟨rfl, ⟨nd, rfl⟩⟩))
        go_ret
        exact ⟨by first | exact congrArg (fun b_ => Ending.returned (.bool b_)) HRT.out | exact congrArg (fun b_ => Ending.returned (.bool b_)) (by simpa using HRT.out) | rfl | (simp [errW_none, errW_some] <;> rfl) | (simp [*, errW_none, errW_some] <;> rfl), by repeat (first | (with_reducible first | exact HB.out | apply below_alloc | apply pw_below_drewN | apply below_drew1 | refine below_set ?_ GE189.out | refine below_set ?_ GE194.out) | exact HB.out)⟩
       ·
        rw [if_neg c19] at H
        have c19b0 : (t202 == t203) = false := by simpa using c19
        (try (have c19b1 : decide (t202 = t203) = false := by simpa using c19))
        (try (have c19b2 : (t202 == t203) = false := by simpa using c19))
        (try (have c19b3 : ¬ (t202 = t203) := by simpa using c19))
        clear c19
        exact absurd H (by simp)
      ·
       rw [if_neg c16] at H
       have c16b0 : (t196 == t198) = false := by simpa using c16
       (try (have c16b1 : decide (t196 = t198) = false := by simpa using c16))
       (try (have c16b2 : (t196 == t198) = false := by simpa using c16))
       (try (have c16b3 : ¬ (t196 = t198) := by simpa using c16))
       clear c16
       exact absurd H (by simp)
     ·
      rw [if_neg c15] at H
      have c15b0 : (t195.toList == t197.toList) = false := beq_eq_false_iff_ne.mpr c15
      have c15b1 : (t195.toList != t197.toList) = true := bne_iff_ne.mpr c15
      exact absurd H (by simp)
    ·
     rw [if_neg c14] at H
     have c14b0 : (t188 == t193) = false := by simpa using c14
     (try (have c14b1 : decide (t188 = t193) = false := by simpa using c14))
     (try (have c14b2 : (t188 == t193) = false := by simpa using c14))
     (try (have c14b3 : ¬ (t188 = t193) := by simpa using c14))
     clear c14
     exact absurd H (by simp)
   ·
    rw [if_neg c13] at H
    have c13b0 : (t185 == t190 && (t186.toList == t191.toList && (t187 == t192))) = false := by simpa using c13
    (try (have c13b1 : decide (t185 = t190 && (t186.toList == t191.toList && (t187 == t192))) = false := by simpa using c13))
    (try (have c13b2 : (t185 == t190 && (t186.toList == t191.toList && (t187 == t192))) = false := by simpa using c13))
    (try (have c13b3 : ¬ (t185 = t190 && (t186.toList == t191.toList && (t187 == t192))) := by simpa using c13))
    clear c13
    exact absurd H (by simp)
  ·
   rw [if_neg c12] at H
   have c12b0 : (t200 == t201) = false := beq_eq_false_iff_ne.mpr c12
   have c12b1 : (t200 != t201) = true := bne_iff_ne.mpr c12
   exact absurd H (by simp)
 ·
  replace c9 := Bool.eq_false_iff.mpr c9
  subst c9
  have H1 : (some false) = some true := by rw [if_neg (show ¬ (false = true) by decide)] at H; first | done | exact H
  clear H
  have H := H1
  clear H1
  exact absurd H (by simp)

/-- THE ONE PURE STATEMENT of cressetlaw15_VersionAsks: yours. -/
def cressetlaw15_VersionAsks.Pure : Prop := ∀ (l0 : List (S33)) (a1 : Int) (l2 : List (S33)), (l0.length ≤ maxLen ∧ l0.length * 32 ≤ 140737488351232 ∧ ∀ x_ ∈ l0, ok33 x_) → (Lit.int .i64 a1).wf = true → (l2.length ≤ maxLen ∧ l2.length * 32 ≤ 140737488351232 ∧ ∀ x_ ∈ l2, ok33 x_) → ∃ k, cressetlaw15_VersionAsks.f k l0 a1 l2 = some true
theorem cressetlaw15_VersionAsks.walk (P : cressetlaw15_VersionAsks.Pure) (A0 : Option Addr) (c0 : Nat) (l0 : List (S33)) (a1 : Int) (A2 : Option Addr) (c2 : Nat) (l2 : List (S33)) (w : World) (hr0 : Kd.C k33 w A0 l0.length l0) (hc0 : l0.length ≤ c0) (hr2 : Kd.C k33 w A2 l2.length l2) (hc2 : l2.length ≤ c2) (w0 : (l0.length ≤ maxLen ∧ l0.length * 32 ≤ 140737488351232 ∧ ∀ x_ ∈ l0, ok33 x_)) (w1 : (Lit.int .i64 a1).wf = true) (w2 : (l2.length ≤ maxLen ∧ l2.length * 32 ≤ 140737488351232 ∧ ∀ x_ ∈ l2, ok33 x_)) :
  Calls Try.prog 4 #[.slice A0 l0.length c0, .int .i64 a1, .slice A2 l2.length c2] w fun e w' => e = .returned (.bool true) ∧ Below w.heap.size w w' := by
 obtain ⟨k, h⟩ := P l0 a1 l2 w0 w1 w2
 refine (cressetlaw15_VersionAsks.calls k A0 c0 l0 a1 A2 c2 l2 w hr0 hc0 hr2 hc2 h).mono ?_
 rintro e w' ⟨rfl, hd⟩
 exact ⟨rfl, hd⟩

end Go.Proofs.Ytpakolohhoegfaa.B

-- Written by a program of this session (wip/print2) out of Lean's print of the translation. Not trusted: Lean checks it.
import Derived.Test.YtmgbmnjjkcljhaaBx0
import Derived.Test.YtmgbmnjjkcljhaaBx19
import Derived.Test.YtmgbmnjjkcljhaaBx20
namespace Go.Proofs.Ytmgbmnjjkcljhaa.B
open Go.RowKit Go.Proofs.YtmgbmnjjkcljhaaW.PrintWords Go.Proofs.YtmgbmnjjkcljhaaW.PrintLast Go.Proofs.YtmgbmnjjkcljhaaW.PrintMore Go.Proofs.YtmgbmnjjkcljhaaW.Mine
attribute [local go_sem] max2_int min2_int max_two min_two max_three min_three max_four min_four str_gtr str_leq str_geq str_max str_min   -- for this text's walks alone
set_option linter.unusedVariables false
set_option linter.unusedSimpArgs false

/-! ### keys_Union: function 29 -/
mutual
def keys_Union.l0 : Nat → List (S27) → List (S27) → Int → Int → Option ((List (S27)))
  | 0, _, _, _, _ => none
  | k + 1, x4, x13, x14, x15 => if x15 < x14 then (if 0 ≤ x15 then (if x15 < (x13.length : Int) then (if (x4.length : Int) > 0 then (if 0 ≤ (wrap64 ((x4.length : Int) - 1)) then (if (wrap64 ((x4.length : Int) - 1)) < (x4.length : Int) then (if ((rd_T27 x4 (wrap64 ((x4.length : Int) - 1))).f1).toList = ([] : List UInt8) then (keys_Union.j1 k x4 (x4.length : Int) x13 x14 x15 true ((rd_T27 x13 x15).f0) ((rd_T27 x13 x15).f1)) else (keys_Union.j1 k x4 (x4.length : Int) x13 x14 x15 (!(Op.bytesLess (((rd_T27 x4 (wrap64 ((x4.length : Int) - 1))).f1).toList) (((rd_T27 x13 x15).f0).toList))) ((rd_T27 x13 x15).f0) ((rd_T27 x13 x15).f1))) else (none)) else (none)) else (keys_Union.j1 k x4 (x4.length : Int) x13 x14 x15 false ((rd_T27 x13 x15).f0) ((rd_T27 x13 x15).f1))) else (none)) else (none)) else (some x4)
def keys_Union.j1 : Nat → List (S27) → Int → List (S27) → Int → Int → Bool → ByteArray → ByteArray → Option ((List (S27)))
  | 0, _, _, _, _, _, _, _, _ => none
  | k + 1, x4, x7, x13, x14, x15, x42, x237000, x237001 => if x42 = true then (if 0 ≤ (wrap64 (x7 - 1)) then (if (wrap64 (x7 - 1)) < (x4.length : Int) then (if ((rd_T27 x4 (wrap64 (x7 - 1))).f1).toList = ([] : List UInt8) then (keys_Union.l0 k x4 x13 x14 (wrap64 (x15 + 1))) else (if x237001.toList = ([] : List UInt8) then (keys_Union.l0 k (x4.set ((wrap64 (x7 - 1)) : Int).toNat (⟨(rd_T27 x4 (wrap64 (x7 - 1))).f0, x237001⟩ : S27)) x13 x14 (wrap64 (x15 + 1))) else (if (Op.bytesLess (((rd_T27 x4 (wrap64 (x7 - 1))).f1).toList) x237001.toList) = true then (keys_Union.l0 k (x4.set ((wrap64 (x7 - 1)) : Int).toNat (⟨(rd_T27 x4 (wrap64 (x7 - 1))).f0, x237001⟩ : S27)) x13 x14 (wrap64 (x15 + 1))) else (keys_Union.l0 k x4 x13 x14 (wrap64 (x15 + 1)))))) else (none)) else (none)) else (if x4.length < 4398046511104 then (keys_Union.l0 k (x4 ++ [(⟨x237000, x237001⟩ : S27)]) x13 x14 (wrap64 (x15 + 1))) else (none))
end
def keys_Union.f (k : Nat) (l0 : List (S27)) : Option ((List (S27))) := (api_Range_39.f l0).bind fun t228 => ((api_Range_38.f t228).bind fun t231 => ((api_Range_40.f t231).bind fun t234 => (keys_Union.l0 k ([] : List (S27)) t234 (t231.length : Int) 0)))
theorem keys_Union.mono_l : ∀ k, (∀ y0 y1 y2 y3, LeO (keys_Union.l0 k y0 y1 y2 y3) (keys_Union.l0 (k + 1) y0 y1 y2 y3)) ∧ (∀ y0 y1 y2 y3 y4 y5 y6 y7, LeO (keys_Union.j1 k y0 y1 y2 y3 y4 y5 y6 y7) (keys_Union.j1 (k + 1) y0 y1 y2 y3 y4 y5 y6 y7))
  | 0 => ⟨fun _ _ _ _ r h => by simp [keys_Union.l0] at h, fun _ _ _ _ _ _ _ _ r h => by simp [keys_Union.j1] at h⟩
  | k + 1 => by
    obtain ⟨ih0, ih1⟩ := keys_Union.mono_l k
    refine ⟨?_, ?_⟩
    · intro y0 y1 y2 y3
      unfold keys_Union.l0
      repeat' first
      | (with_reducible exact ih0 _ _ _ _)
      | (with_reducible exact ih1 _ _ _ _ _ _ _ _)
      | (with_reducible exact LeO.refl _)
      | (with_reducible exact LeO.none _)
      | (with_reducible refine LeO.ite ?_ ?_)
      | (with_reducible refine LeO.bind ?_ (fun _ => ?_))
      | exact ih0 _ _ _ _
      | exact ih1 _ _ _ _ _ _ _ _
      | exact LeO.none _
      | refine LeO.ite ?_ ?_
      | refine LeO.bind ?_ (fun _ => ?_)
    · intro y0 y1 y2 y3 y4 y5 y6 y7
      unfold keys_Union.j1
      repeat' first
      | (with_reducible exact ih0 _ _ _ _)
      | (with_reducible exact ih1 _ _ _ _ _ _ _ _)
      | (with_reducible exact LeO.refl _)
      | (with_reducible exact LeO.none _)
      | (with_reducible refine LeO.ite ?_ ?_)
      | (with_reducible refine LeO.bind ?_ (fun _ => ?_))
      | exact ih0 _ _ _ _
      | exact ih1 _ _ _ _ _ _ _ _
      | exact LeO.none _
      | refine LeO.ite ?_ ?_
      | refine LeO.bind ?_ (fun _ => ?_)
theorem keys_Union.mono : ∀ a0 k, LeO (keys_Union.f k a0) (keys_Union.f (k + 1) a0) := by
  intro a0 k
  obtain ⟨ih0, ih1⟩ := keys_Union.mono_l k
  unfold keys_Union.f
  repeat' first
      | (with_reducible exact ih0 _ _ _ _)
      | (with_reducible exact ih1 _ _ _ _ _ _ _ _)
      | (with_reducible exact LeO.refl _)
      | (with_reducible exact LeO.none _)
      | (with_reducible refine LeO.ite ?_ ?_)
      | (with_reducible refine LeO.bind ?_ (fun _ => ?_))
      | exact ih0 _ _ _ _
      | exact ih1 _ _ _ _ _ _ _ _
      | exact LeO.none _
      | refine LeO.ite ?_ ?_
      | refine LeO.bind ?_ (fun _ => ?_)
set_option maxHeartbeats 8000000 in
set_option maxRecDepth 100000 in
theorem keys_Union.calls (k : Nat) (A0 : Option Addr) (c0 : Nat) (l0 : List (S27)) (r : List (S27)) (w : World) (hr0 : Kd.C k27 w A0 l0.length l0) (hc0 : l0.length ≤ c0) (h : keys_Union.f k l0 = some r) :
    Calls Try.prog 29 #[.slice A0 l0.length c0] w fun e w' => ∃ v0_ : Value, e = .returned (v0_) ∧ Kd.R k27 27 w' w.heap.size (fun _ => True) v0_ r ∧ Below w.heap.size w w' := by
 have hu27 := Try.underlying27
 have HR0 := Aside0.mk hr0
 have HC0 := Aside0.mk hc0
 clear hr0 hc0
 have HB := Aside0.mk (Below.refl w.heap.size w)
 have H : ((api_Range_39.f l0).bind fun t228 => ((api_Range_38.f t228).bind fun t231 => ((api_Range_40.f t231).bind fun t234 => (keys_Union.l0 k ([] : List (S27)) t234 (t231.length : Int) 0)))) = some r := h
 clear h
 replace H := Option.bind_eq_some_iff.mp H
 obtain ⟨t228, A20, H⟩ := H
 replace H : ((api_Range_38.f t228).bind fun t231 => ((api_Range_40.f t231).bind fun t234 => (keys_Union.l0 k ([] : List (S27)) t234 (t231.length : Int) 0))) = some r := H
 have A2 := Aside0.mk A20
 clear A20
 replace H := Option.bind_eq_some_iff.mp H
 obtain ⟨t231, A30, H⟩ := H
 replace H : ((api_Range_40.f t231).bind fun t234 => (keys_Union.l0 k ([] : List (S27)) t234 (t231.length : Int) 0)) = some r := H
 have A3 := Aside0.mk A30
 clear A30
 replace H := Option.bind_eq_some_iff.mp H
 obtain ⟨t234, A40, H⟩ := H
 replace H : (keys_Union.l0 k ([] : List (S27)) t234 (t231.length : Int) 0) = some r := H
 have A4 := Aside0.mk A40
 clear A40
 have H' := Aside0.mk H
 clear H
 go_enter Try.func29, Try.ntmps29
 go_wp2_with (first | (go_at_call 39; (with_reducible refine (api_Range_39.calls _ _ l0 t228 _ ?side1 ?side2 A2.out).mono ?_); (case side1 => repeat (first | exact HR0.out | (with_reducible refine Kd.C_alloc ?_ _) | (with_reducible refine Kd.C_drewN ?_ _) | (with_reducible refine Kd.C_drew ?_))); (case side2 => exact HC0.out); rintro e w5 ⟨v229, rfl, ho0, hb⟩; have n0_ := Aside0.mk (Kd.R_lower ho0 (below_size (by repeat (first | (with_reducible first | exact HB.out | apply below_alloc | apply pw_below_drewN | apply below_drew1) | exact HB.out)))); have n1_ := Aside0.mk (below_step (by repeat (first | (with_reducible first | exact HB.out | apply below_alloc | apply pw_below_drewN | apply below_drew1) | exact HB.out)) hb); clear HB; have HO230 := n0_; have HB := n1_; clear n0_ n1_; (try clear hb); (try clear hb2); (try clear hk); (try clear hi); (try clear ho0); obtain ⟨Ao6, co6, eo6⟩ := Kd.R_slice HO230.out; subst eo6) | (go_at_call 38; (with_reducible refine (api_Range_38.calls (fun k_ => some k_ = (.slice Ao6 t228.length co6 : Value).ownBlock) (.slice Ao6 t228.length co6) t228 t231 w _ ?side1 ?side2 A3.out).mono ?_); (case side1 => repeat (first | (with_reducible first | exact HB.out | apply below_alloc | apply pw_below_drewN | apply below_drew1) | exact HB.out)); (case side2 => exact Kd.R_tight rfl HO230.out); rintro e w7 ⟨v232, rfl, ho0, hb, hkp⟩; have n0_ := Aside0.mk (Kd.R_mono (ok' := fun k_ => True) ho0 (fun k_ hk_ => trivial)); have n1_ := Aside0.mk (hb); clear HB; clear HO230; have HO233 := n0_; have HB := n1_; clear n0_ n1_; (try clear hb); (try clear hkp); (try clear ho0); obtain ⟨Ao8, co8, eo8⟩ := Kd.R_slice HO233.out; subst eo8) | (go_at_call 40; (with_reducible refine (api_Range_40.calls (fun k_ => some k_ = (.slice Ao8 t231.length co8 : Value).ownBlock) (.slice Ao8 t231.length co8) t231 t234 w _ ?side1 ?side2 A4.out).mono ?_); (case side1 => repeat (first | (with_reducible first | exact HB.out | apply below_alloc | apply pw_below_drewN | apply below_drew1) | exact HB.out)); (case side2 => exact Kd.R_tight rfl HO233.out); rintro e w9 ⟨rfl, hy0, hb, hkp⟩; have n0_ := Aside0.mk (Kd.R_reok rfl hy0 (fun k_ e_ => HO233.out.1 k_ e_)); have n1_ := Aside0.mk (hb); clear HO233; clear HB; have HO233 := n0_; have HB := n1_; clear n0_ n1_; (try clear hb); (try clear hkp); (try clear hy0)))
 repeat (go_quiet (first | (go_at_call 39; (with_reducible refine (api_Range_39.calls _ _ l0 t228 _ ?side1 ?side2 A2.out).mono ?_); (case side1 => repeat (first | exact HR0.out | (with_reducible refine Kd.C_alloc ?_ _) | (with_reducible refine Kd.C_drewN ?_ _) | (with_reducible refine Kd.C_drew ?_))); (case side2 => exact HC0.out); rintro e w5 ⟨v229, rfl, ho0, hb⟩; have n0_ := Aside0.mk (Kd.R_lower ho0 (below_size (by repeat (first | (with_reducible first | exact HB.out | apply below_alloc | apply pw_below_drewN | apply below_drew1) | exact HB.out)))); have n1_ := Aside0.mk (below_step (by repeat (first | (with_reducible first | exact HB.out | apply below_alloc | apply pw_below_drewN | apply below_drew1) | exact HB.out)) hb); clear HB; have HO230 := n0_; have HB := n1_; clear n0_ n1_; (try clear hb); (try clear hb2); (try clear hk); (try clear hi); (try clear ho0); obtain ⟨Ao6, co6, eo6⟩ := Kd.R_slice HO230.out; subst eo6) | (go_at_call 38; (with_reducible refine (api_Range_38.calls (fun k_ => some k_ = (.slice Ao6 t228.length co6 : Value).ownBlock) (.slice Ao6 t228.length co6) t228 t231 w _ ?side1 ?side2 A3.out).mono ?_); (case side1 => repeat (first | (with_reducible first | exact HB.out | apply below_alloc | apply pw_below_drewN | apply below_drew1) | exact HB.out)); (case side2 => exact Kd.R_tight rfl HO230.out); rintro e w7 ⟨v232, rfl, ho0, hb, hkp⟩; have n0_ := Aside0.mk (Kd.R_mono (ok' := fun k_ => True) ho0 (fun k_ hk_ => trivial)); have n1_ := Aside0.mk (hb); clear HB; clear HO230; have HO233 := n0_; have HB := n1_; clear n0_ n1_; (try clear hb); (try clear hkp); (try clear ho0); obtain ⟨Ao8, co8, eo8⟩ := Kd.R_slice HO233.out; subst eo8) | (go_at_call 40; (with_reducible refine (api_Range_40.calls (fun k_ => some k_ = (.slice Ao8 t231.length co8 : Value).ownBlock) (.slice Ao8 t231.length co8) t231 t234 w _ ?side1 ?side2 A4.out).mono ?_); (case side1 => repeat (first | (with_reducible first | exact HB.out | apply below_alloc | apply pw_below_drewN | apply below_drew1) | exact HB.out)); (case side2 => exact Kd.R_tight rfl HO233.out); rintro e w9 ⟨rfl, hy0, hb, hkp⟩; have n0_ := Aside0.mk (Kd.R_reok rfl hy0 (fun k_ e_ => HO233.out.1 k_ e_)); have n1_ := Aside0.mk (hb); clear HO233; clear HB; have HO233 := n0_; have HB := n1_; clear n0_ n1_; (try clear hb); (try clear hkp); (try clear hy0))); try go_wp2_with (first | (go_at_call 39; (with_reducible refine (api_Range_39.calls _ _ l0 t228 _ ?side1 ?side2 A2.out).mono ?_); (case side1 => repeat (first | exact HR0.out | (with_reducible refine Kd.C_alloc ?_ _) | (with_reducible refine Kd.C_drewN ?_ _) | (with_reducible refine Kd.C_drew ?_))); (case side2 => exact HC0.out); rintro e w5 ⟨v229, rfl, ho0, hb⟩; have n0_ := Aside0.mk (Kd.R_lower ho0 (below_size (by repeat (first | (with_reducible first | exact HB.out | apply below_alloc | apply pw_below_drewN | apply below_drew1) | exact HB.out)))); have n1_ := Aside0.mk (below_step (by repeat (first | (with_reducible first | exact HB.out | apply below_alloc | apply pw_below_drewN | apply below_drew1) | exact HB.out)) hb); clear HB; have HO230 := n0_; have HB := n1_; clear n0_ n1_; (try clear hb); (try clear hb2); (try clear hk); (try clear hi); (try clear ho0); obtain ⟨Ao6, co6, eo6⟩ := Kd.R_slice HO230.out; subst eo6) | (go_at_call 38; (with_reducible refine (api_Range_38.calls (fun k_ => some k_ = (.slice Ao6 t228.length co6 : Value).ownBlock) (.slice Ao6 t228.length co6) t228 t231 w _ ?side1 ?side2 A3.out).mono ?_); (case side1 => repeat (first | (with_reducible first | exact HB.out | apply below_alloc | apply pw_below_drewN | apply below_drew1) | exact HB.out)); (case side2 => exact Kd.R_tight rfl HO230.out); rintro e w7 ⟨v232, rfl, ho0, hb, hkp⟩; have n0_ := Aside0.mk (Kd.R_mono (ok' := fun k_ => True) ho0 (fun k_ hk_ => trivial)); have n1_ := Aside0.mk (hb); clear HB; clear HO230; have HO233 := n0_; have HB := n1_; clear n0_ n1_; (try clear hb); (try clear hkp); (try clear ho0); obtain ⟨Ao8, co8, eo8⟩ := Kd.R_slice HO233.out; subst eo8) | (go_at_call 40; (with_reducible refine (api_Range_40.calls (fun k_ => some k_ = (.slice Ao8 t231.length co8 : Value).ownBlock) (.slice Ao8 t231.length co8) t231 t234 w _ ?side1 ?side2 A4.out).mono ?_); (case side1 => repeat (first | (with_reducible first | exact HB.out | apply below_alloc | apply pw_below_drewN | apply below_drew1) | exact HB.out)); (case side2 => exact Kd.R_tight rfl HO233.out); rintro e w9 ⟨rfl, hy0, hb, hkp⟩; have n0_ := Aside0.mk (Kd.R_reok rfl hy0 (fun k_ e_ => HO233.out.1 k_ e_)); have n1_ := Aside0.mk (hb); clear HO233; clear HB; have HO233 := n0_; have HB := n1_; clear n0_ n1_; (try clear hb); (try clear hkp); (try clear hy0))))
 go_loopg [4, 15] k (fun kq v4 v15 w' => ∃ (x4_1 : List (S27)) (x13_1 : List (S27)) (x15_1 : Int), v15 = .int .i64 x15_1 ∧ Aside0 (keys_Union.l0 kq x4_1 x13_1 (t231.length : Int) x15_1 = some r) ∧ Aside0 (kq ≤ k) ∧ Aside0 (Kd.R k27 27 w' w.heap.size (fun k_ => some k_ ≠ ((.slice Ao8 t231.length co8) : Value).ownBlock) v4 x4_1) ∧ Aside0 (Kd.R k27 27 w' w.heap.size (fun k_ => some k_ ≠ (v4 : Value).ownBlock) (.slice Ao8 t231.length co8) x13_1) ∧ Aside0 (Below w.heap.size w w'))
 case atStart => exact ⟨(([] : List (S27))), (t234), (0), (by first | rfl | (simp; done) | (simp [*]; done)), H', ⟨Nat.le_refl _⟩, ⟨by first | exact Kd.R_nil _ _ _ _ _ | exact Kd.N_nil _ _ _ _ _ | exact Kd.V_nil _ _ _ _ _ | exact Kd.Q_nil _ _ _ _ _ | exact Kd.S_nil _ _ _ _ _⟩, ⟨by (with_reducible repeat (first | apply Kd.R_alloc | apply Kd.R_drewN | apply Kd.R_drew)); exact Kd.R_mono HO233.out (fun _ hk => (by simp [Value.ownBlock]))⟩, ⟨by repeat (first | (with_reducible first | exact HB.out | apply below_alloc | apply pw_below_drewN | apply below_drew1) | exact HB.out)⟩⟩
 case round =>
  clear H'
  try clear c2
  try clear p2
  obtain ⟨x4_1, x13_1, x15_1, rfl, HA, HK1, HO_4, HO_13, HB⟩ := hrel
  have hl13_1 := (Kd.R_reads' HO_13.out).1
  rw [hl13_1] at HO_13
  (try simp only [hl13_1])
  (try simp only [hl13_1] at HO_4)
  cases gk with
  | zero => exact absurd HA.out (by simp [keys_Union.l0])
  | succ k1 =>
   have H := HA.out
   clear HA
   simp only [keys_Union.l0] at H
   by_cases c10 : x15_1 < (t231.length : Int)
   ·
    rw [if_pos c10] at H
    have c10b0 : decide (x15_1 < (t231.length : Int)) = true := decide_eq_true c10
    clear c10
    by_cases c11 : 0 ≤ x15_1
    ·
     rw [if_pos c11] at H
     have c11b0 : decide (0 ≤ x15_1) = true := decide_eq_true c11
     clear c11
     by_cases c12 : x15_1 < (x13_1.length : Int)
     ·
      rw [if_pos c12] at H
      have c12b0 : decide (x15_1 < (x13_1.length : Int)) = true := decide_eq_true c12
      clear c12
      have HC13 := Aside0.mk H
      clear H
      have p235 : 0 ≤ (x15_1 : Int) := of_decide_eq_true (by first | (with_reducible assumption) | assumption)
      have q235 : x15_1 < (x13_1.length : Int) := of_decide_eq_true (by first | (with_reducible assumption) | assumption)
      obtain ⟨ad235, e235, hx235_0, hx235_1⟩ := at_T27 (Kd.R_reads' HO_13.out).2.2 x15_1 p235 q235
      cases e235
      replace p235 := eq_true p235
      replace q235 := eq_true q235
      go_upto_region 8 with (first | ((with_reducible refine gate_dst (N := 6) rfl ?_); refine box_event ?hg (N := 6) ?hd (cs := #[.string (⟨#[]⟩ : ByteArray), .string (⟨#[]⟩ : ByteArray)]) (t := 27) ?hr ?_; (case hd => rfl); (case hg => rfl); (case hr => first | (go_simp; done) | (go_simp; rfl)); intro gb236 hg w14 hbox hb; have n0_ := Aside0.mk (Kd.R_below (Kd.R_elderB (by (with_reducible repeat (first | apply Kd.R_alloc | apply Kd.R_drewN | apply Kd.R_drew)); exact HO_4.out) gb236 (Nat.le_of_eq hg.symm)) hb); have n1_ := Aside0.mk (Kd.R_below (Kd.R_elderB (by (with_reducible repeat (first | apply Kd.R_alloc | apply Kd.R_drewN | apply Kd.R_drew)); exact HO_13.out) gb236 (Nat.le_of_eq hg.symm)) hb); have n2_ := Aside0.mk (below_step (by repeat (first | (with_reducible first | exact HB.out | apply below_alloc | apply pw_below_drewN | apply below_drew1) | exact HB.out)) hb); have n3_ := Aside0.mk (hbox); have n4_ := Aside0.mk ((by rw [hg]; exact (below_size (by repeat (first | (with_reducible first | exact HB.out | apply below_alloc | apply pw_below_drewN | apply below_drew1) | exact HB.out))) : w.heap.size ≤ gb236)); have n5_ := Aside0.mk ((by rw [hg]; exact (below_size (by repeat (first | (with_reducible first | exact HB.out | apply below_alloc | apply pw_below_drewN | apply below_drew1) | exact HB.out))) : w.heap.size ≤ gb236)); clear HO_4; clear HO_13; clear HB; have HO_4 := n0_; have HO_13 := n1_; have HB := n2_; have BK236 := n3_; have GW236 := n4_; have GE236 := n5_; clear n0_ n1_ n2_ n3_ n4_ n5_; clear hb hbox hg; have hcz15_0 : w14.cell? ⟨gb236, 0, none⟩ = some (.string (⟨#[]⟩ : ByteArray)) := (blk_cell BK236.out 0).trans rfl; have hcz15_1 : w14.cell? ⟨gb236, 1, none⟩ = some (.string (⟨#[]⟩ : ByteArray)) := (blk_cell BK236.out 1).trans rfl; have hfz15_0 := blk_frozen BK236.out 0; have hfz15_1 := blk_frozen BK236.out 1; obtain ⟨Ao16, co16, eo16⟩ := Kd.R_slice HO_4.out; subst eo16))
      repeat (go_quiet (first | ((with_reducible refine gate_dst (N := 6) rfl ?_); refine box_event ?hg (N := 6) ?hd (cs := #[.string (⟨#[]⟩ : ByteArray), .string (⟨#[]⟩ : ByteArray)]) (t := 27) ?hr ?_; (case hd => rfl); (case hg => rfl); (case hr => first | (go_simp; done) | (go_simp; rfl)); intro gb236 hg w14 hbox hb; have n0_ := Aside0.mk (Kd.R_below (Kd.R_elderB (by (with_reducible repeat (first | apply Kd.R_alloc | apply Kd.R_drewN | apply Kd.R_drew)); exact HO_4.out) gb236 (Nat.le_of_eq hg.symm)) hb); have n1_ := Aside0.mk (Kd.R_below (Kd.R_elderB (by (with_reducible repeat (first | apply Kd.R_alloc | apply Kd.R_drewN | apply Kd.R_drew)); exact HO_13.out) gb236 (Nat.le_of_eq hg.symm)) hb); have n2_ := Aside0.mk (below_step (by repeat (first | (with_reducible first | exact HB.out | apply below_alloc | apply pw_below_drewN | apply below_drew1) | exact HB.out)) hb); have n3_ := Aside0.mk (hbox); have n4_ := Aside0.mk ((by rw [hg]; exact (below_size (by repeat (first | (with_reducible first | exact HB.out | apply below_alloc | apply pw_below_drewN | apply below_drew1) | exact HB.out))) : w.heap.size ≤ gb236)); have n5_ := Aside0.mk ((by rw [hg]; exact (below_size (by repeat (first | (with_reducible first | exact HB.out | apply below_alloc | apply pw_below_drewN | apply below_drew1) | exact HB.out))) : w.heap.size ≤ gb236)); clear HO_4; clear HO_13; clear HB; have HO_4 := n0_; have HO_13 := n1_; have HB := n2_; have BK236 := n3_; have GW236 := n4_; have GE236 := n5_; clear n0_ n1_ n2_ n3_ n4_ n5_; clear hb hbox hg; have hcz15_0 : w14.cell? ⟨gb236, 0, none⟩ = some (.string (⟨#[]⟩ : ByteArray)) := (blk_cell BK236.out 0).trans rfl; have hcz15_1 : w14.cell? ⟨gb236, 1, none⟩ = some (.string (⟨#[]⟩ : ByteArray)) := (blk_cell BK236.out 1).trans rfl; have hfz15_0 := blk_frozen BK236.out 0; have hfz15_1 := blk_frozen BK236.out 1; obtain ⟨Ao16, co16, eo16⟩ := Kd.R_slice HO_4.out; subst eo16)); go_upto_region 8 with (first | ((with_reducible refine gate_dst (N := 6) rfl ?_); refine box_event ?hg (N := 6) ?hd (cs := #[.string (⟨#[]⟩ : ByteArray), .string (⟨#[]⟩ : ByteArray)]) (t := 27) ?hr ?_; (case hd => rfl); (case hg => rfl); (case hr => first | (go_simp; done) | (go_simp; rfl)); intro gb236 hg w14 hbox hb; have n0_ := Aside0.mk (Kd.R_below (Kd.R_elderB (by (with_reducible repeat (first | apply Kd.R_alloc | apply Kd.R_drewN | apply Kd.R_drew)); exact HO_4.out) gb236 (Nat.le_of_eq hg.symm)) hb); have n1_ := Aside0.mk (Kd.R_below (Kd.R_elderB (by (with_reducible repeat (first | apply Kd.R_alloc | apply Kd.R_drewN | apply Kd.R_drew)); exact HO_13.out) gb236 (Nat.le_of_eq hg.symm)) hb); have n2_ := Aside0.mk (below_step (by repeat (first | (with_reducible first | exact HB.out | apply below_alloc | apply pw_below_drewN | apply below_drew1) | exact HB.out)) hb); have n3_ := Aside0.mk (hbox); have n4_ := Aside0.mk ((by rw [hg]; exact (below_size (by repeat (first | (with_reducible first | exact HB.out | apply below_alloc | apply pw_below_drewN | apply below_drew1) | exact HB.out))) : w.heap.size ≤ gb236)); have n5_ := Aside0.mk ((by rw [hg]; exact (below_size (by repeat (first | (with_reducible first | exact HB.out | apply below_alloc | apply pw_below_drewN | apply below_drew1) | exact HB.out))) : w.heap.size ≤ gb236)); clear HO_4; clear HO_13; clear HB; have HO_4 := n0_; have HO_13 := n1_; have HB := n2_; have BK236 := n3_; have GW236 := n4_; have GE236 := n5_; clear n0_ n1_ n2_ n3_ n4_ n5_; clear hb hbox hg; have hcz15_0 : w14.cell? ⟨gb236, 0, none⟩ = some (.string (⟨#[]⟩ : ByteArray)) := (blk_cell BK236.out 0).trans rfl; have hcz15_1 : w14.cell? ⟨gb236, 1, none⟩ = some (.string (⟨#[]⟩ : ByteArray)) := (blk_cell BK236.out 1).trans rfl; have hfz15_0 := blk_frozen BK236.out 0; have hfz15_1 := blk_frozen BK236.out 1; obtain ⟨Ao16, co16, eo16⟩ := Kd.R_slice HO_4.out; subst eo16)))
      (try simp only [Act.put, List.setIfInBounds_toArray, List.set_cons_zero, List.set_cons_succ])
      go_cut [42] (fun v42 wc => ∃ (kq : Nat) (x42_12 : Bool), v42 = .bool x42_12 ∧ Aside0 (keys_Union.j1 kq x4_1 (x4_1.length : Int) x13_1 (t231.length : Int) x15_1 x42_12 ((rd_T27 x13_1 x15_1).f0) ((rd_T27 x13_1 x15_1).f1) = some r) ∧ Aside0 (kq ≤ k1) ∧ Aside0 (Kd.R k27 27 wc w.heap.size (fun k_ => some k_ ≠ ((.slice (some ad235) x13_1.length co8) : Value).ownBlock ∧ k_ ≠ gb236) (.slice Ao16 x4_1.length co16) x4_1) ∧ Aside0 (Kd.R k27 27 wc w.heap.size (fun k_ => some k_ ≠ ((.slice Ao16 x4_1.length co16) : Value).ownBlock ∧ k_ ≠ gb236) (.slice (some ad235) x13_1.length co8) x13_1) ∧ Aside0 (wc.heap[gb236]? = some (.cells #[.string ((rd_T27 x13_1 x15_1).f0), .string ((rd_T27 x13_1 x15_1).f1)] 27 (0, 0))) ∧ Aside0 (Below w.heap.size w wc))
      case first =>
       have H := HC13.out
       clear HC13
       by_cases c17 : (x4_1.length : Int) > 0
       ·
        rw [if_pos c17] at H
        have c17b0 : decide (0 < (x4_1.length : Int)) = true := decide_eq_true c17
        have c17b1 : decide (0 < x4_1.length) = true := decide_eq_true (by omega)
        clear c17
        (first | rw [c17b0] | (simp only [i64_w, i32_w]; rw [c17b0]) | skip)
        obtain ⟨ji18, hji18⟩ : ∃ j_ : Int, (wrap64 ((x4_1.length : Int) - 1)) = j_ := ⟨_, rfl⟩
        replace H : (if 0 ≤ (ji18) then (if (ji18) < (x4_1.length : Int) then (if ((rd_T27 x4_1 (ji18)).f1).toList = ([] : List UInt8) then (keys_Union.j1 k1 x4_1 (x4_1.length : Int) x13_1 (t231.length : Int) x15_1 true ((rd_T27 x13_1 x15_1).f0) ((rd_T27 x13_1 x15_1).f1)) else (keys_Union.j1 k1 x4_1 (x4_1.length : Int) x13_1 (t231.length : Int) x15_1 (!(Op.bytesLess (((rd_T27 x4_1 (ji18)).f1).toList) (((rd_T27 x13_1 x15_1).f0).toList))) ((rd_T27 x13_1 x15_1).f0) ((rd_T27 x13_1 x15_1).f1))) else (none)) else (none)) = some r := by first | (rw [hji18] at H; first | done | exact H) | (simp only [hji18] at H ⊢; exact H)
        have hji18w : (IntKind.i64.wrap ((x4_1.length : Int) - 1)) = ji18 := (i64_w _).trans hji18
        by_cases c19 : 0 ≤ (ji18)
        ·
         rw [if_pos c19] at H
         have c19b0 : decide (0 ≤ (ji18)) = true := decide_eq_true c19
         clear c19
         by_cases c20 : (ji18) < (x4_1.length : Int)
         ·
          rw [if_pos c20] at H
          have c20b0 : decide ((ji18) < (x4_1.length : Int)) = true := decide_eq_true c20
          clear c20
          by_cases c21 : ((rd_T27 x4_1 (ji18)).f1).toList = ([] : List UInt8)
          ·
           rw [if_pos c21] at H
           have c21b0 : (((rd_T27 x4_1 (ji18)).f1).toList == ([] : List UInt8)) = true := beq_iff_eq.mpr c21
           have c21b1 : (((rd_T27 x4_1 (ji18)).f1).toList != ([] : List UInt8)) = false := bne_eq_false_iff_eq.mpr c21
           clear c21
           have H' := Aside0.mk H
           clear H
           have p237 : 0 ≤ ((ji18) : Int) := of_decide_eq_true (by first | (with_reducible assumption) | assumption)
           have q237 : (ji18) < (x4_1.length : Int) := of_decide_eq_true (by first | (with_reducible assumption) | assumption)
           obtain ⟨ad237, e237, hx237_0, hx237_1⟩ := at_T27 (Kd.R_reads' HO_4.out).2.2 (ji18) p237 q237
           cases e237
           have hn237_0 : ad237.block ≠ gb236 := (by first | exact Kd.own_blk (Kd.R_ne HO_4.out BK236.out (by decide)) | exact Kd.own_blk (Kd.R_away HO_4.out (fun _ hk => hk.2)) | exact Kd.own_blk (Kd.R_away HO_4.out (fun _ hk => hk.2.2)) | exact Kd.own_blk (Kd.R_away HO_4.out (fun _ hk => hk)))
           have hn237_1 : ad237.block ≠ gb236 := (by first | exact Kd.own_blk (Kd.R_ne HO_4.out BK236.out (by decide)) | exact Kd.own_blk (Kd.R_away HO_4.out (fun _ hk => hk.2)) | exact Kd.own_blk (Kd.R_away HO_4.out (fun _ hk => hk.2.2)) | exact Kd.own_blk (Kd.R_away HO_4.out (fun _ hk => hk)))
           replace hx237_0 := (cell_far (p := ⟨gb236, 0, none⟩) (by first | (rw [add_block]; exact hn237_0) | (show (Addr.add _ _).block ≠ _; rw [add_block]; exact hn237_0) | exact hn237_0) (.string ((rd_T27 x13_1 x15_1).f0))).trans hx237_0
           replace hx237_1 := (cell_far (p := ⟨gb236, 0, none⟩) (by first | (rw [add_block]; exact hn237_0) | (show (Addr.add _ _).block ≠ _; rw [add_block]; exact hn237_0) | exact hn237_0) (.string ((rd_T27 x13_1 x15_1).f0))).trans hx237_1
           replace hx237_0 := (cell_far (p := ⟨gb236, 1, none⟩) (by first | (rw [add_block]; exact hn237_1) | (show (Addr.add _ _).block ≠ _; rw [add_block]; exact hn237_1) | exact hn237_1) (.string ((rd_T27 x13_1 x15_1).f1))).trans hx237_0
           replace hx237_1 := (cell_far (p := ⟨gb236, 1, none⟩) (by first | (rw [add_block]; exact hn237_1) | (show (Addr.add _ _).block ≠ _; rw [add_block]; exact hn237_1) | exact hn237_1) (.string ((rd_T27 x13_1 x15_1).f1))).trans hx237_1
           (try have hy237_0 := fun (n_ : Nat) => (show ((((w14.drewN n_).setCell ⟨gb236, 0, none⟩ (.string ((rd_T27 x13_1 x15_1).f0))).setCell ⟨gb236, 1, none⟩ (.string ((rd_T27 x13_1 x15_1).f1)))).cell? _ = some _ from hx237_0))
           (try have hy237_1 := fun (n_ : Nat) => (show ((((w14.drewN n_).setCell ⟨gb236, 0, none⟩ (.string ((rd_T27 x13_1 x15_1).f0))).setCell ⟨gb236, 1, none⟩ (.string ((rd_T27 x13_1 x15_1).f1)))).cell? _ = some _ from hx237_1))
           clear hn237_0
           clear hn237_1
           replace p237 := eq_true p237
           replace q237 := eq_true q237
           go_wp2
           repeat (go_quiet (fail); try go_wp2)
           go_meet
           case rel => exact ⟨_, (true), (by first | rfl | (simp; done) | (simp [*]; done)), H', ⟨by have := HK1.out; first | omega | exact Nat.le_refl _⟩, ⟨by (try simp only [hl13_1]); (with_reducible repeat (first | apply Kd.R_alloc | apply Kd.R_drewN | apply Kd.R_drew)); exact Kd.R_mono (Kd.R_far (p := ⟨gb236, 1, none⟩) (Kd.R_far (p := ⟨gb236, 0, none⟩) (Kd.R_mono HO_4.out (fun k_ hk => (⟨hk, hk.2⟩ : _ ∧ k_ ≠ gb236))) (fun _ hk => hk.2) (.string ((rd_T27 x13_1 x15_1).f0))) (fun _ hk => hk.2) (.string ((rd_T27 x13_1 x15_1).f1))) (fun _ hk => ⟨hk.1.1, hk.1.2⟩)⟩, ⟨by (try simp only [hl13_1]); (with_reducible repeat (first | apply Kd.R_alloc | apply Kd.R_drewN | apply Kd.R_drew)); exact Kd.R_mono (Kd.R_far (p := ⟨gb236, 1, none⟩) (Kd.R_far (p := ⟨gb236, 0, none⟩) (Kd.R_mono HO_13.out (fun k_ hk => (⟨hk, hk.2⟩ : _ ∧ k_ ≠ gb236))) (fun _ hk => hk.2) (.string ((rd_T27 x13_1 x15_1).f0))) (fun _ hk => hk.2) (.string ((rd_T27 x13_1 x15_1).f1))) (fun _ hk => ⟨hk.1.1, hk.1.2⟩)⟩, ⟨by (try simp only [hl13_1]); (with_reducible repeat (first | refine blk_drewN ?_ _ | refine blk_drew ?_ | refine blk_alloc ?_ _)); refine blk_put (cs := #[.string ((rd_T27 x13_1 x15_1).f0), .string (⟨#[]⟩ : ByteArray)]) ?_ 1 _ rfl; (with_reducible repeat (first | refine blk_drewN ?_ _ | refine blk_drew ?_ | refine blk_alloc ?_ _)); refine blk_put (cs := #[.string (⟨#[]⟩ : ByteArray), .string (⟨#[]⟩ : ByteArray)]) ?_ 0 _ rfl; (with_reducible repeat (first | refine blk_drewN ?_ _ | refine blk_drew ?_ | refine blk_alloc ?_ _)); exact BK236.out⟩, ⟨by repeat (first | (with_reducible first | exact HB.out | apply below_alloc | apply pw_below_drewN | apply below_drew1 | refine below_set ?_ GE236.out) | exact HB.out)⟩⟩
          ·
           rw [if_neg c21] at H
           have c21b0 : (((rd_T27 x4_1 (ji18)).f1).toList == ([] : List UInt8)) = false := beq_eq_false_iff_ne.mpr c21
           have c21b1 : (((rd_T27 x4_1 (ji18)).f1).toList != ([] : List UInt8)) = true := bne_iff_ne.mpr c21
           have H' := Aside0.mk H
           clear H
           have p237 : 0 ≤ ((ji18) : Int) := of_decide_eq_true (by first | (with_reducible assumption) | assumption)
           have q237 : (ji18) < (x4_1.length : Int) := of_decide_eq_true (by first | (with_reducible assumption) | assumption)
           obtain ⟨ad237, e237, hx237_0, hx237_1⟩ := at_T27 (Kd.R_reads' HO_4.out).2.2 (ji18) p237 q237
           cases e237
           have hn237_0 : ad237.block ≠ gb236 := (by first | exact Kd.own_blk (Kd.R_ne HO_4.out BK236.out (by decide)) | exact Kd.own_blk (Kd.R_away HO_4.out (fun _ hk => hk.2)) | exact Kd.own_blk (Kd.R_away HO_4.out (fun _ hk => hk.2.2)) | exact Kd.own_blk (Kd.R_away HO_4.out (fun _ hk => hk)))
           have hn237_1 : ad237.block ≠ gb236 := (by first | exact Kd.own_blk (Kd.R_ne HO_4.out BK236.out (by decide)) | exact Kd.own_blk (Kd.R_away HO_4.out (fun _ hk => hk.2)) | exact Kd.own_blk (Kd.R_away HO_4.out (fun _ hk => hk.2.2)) | exact Kd.own_blk (Kd.R_away HO_4.out (fun _ hk => hk)))
           replace hx237_0 := (cell_far (p := ⟨gb236, 0, none⟩) (by first | (rw [add_block]; exact hn237_0) | (show (Addr.add _ _).block ≠ _; rw [add_block]; exact hn237_0) | exact hn237_0) (.string ((rd_T27 x13_1 x15_1).f0))).trans hx237_0
           replace hx237_1 := (cell_far (p := ⟨gb236, 0, none⟩) (by first | (rw [add_block]; exact hn237_0) | (show (Addr.add _ _).block ≠ _; rw [add_block]; exact hn237_0) | exact hn237_0) (.string ((rd_T27 x13_1 x15_1).f0))).trans hx237_1
           replace hx237_0 := (cell_far (p := ⟨gb236, 1, none⟩) (by first | (rw [add_block]; exact hn237_1) | (show (Addr.add _ _).block ≠ _; rw [add_block]; exact hn237_1) | exact hn237_1) (.string ((rd_T27 x13_1 x15_1).f1))).trans hx237_0
           replace hx237_1 := (cell_far (p := ⟨gb236, 1, none⟩) (by first | (rw [add_block]; exact hn237_1) | (show (Addr.add _ _).block ≠ _; rw [add_block]; exact hn237_1) | exact hn237_1) (.string ((rd_T27 x13_1 x15_1).f1))).trans hx237_1
           (try have hy237_0 := fun (n_ : Nat) => (show ((((w14.drewN n_).setCell ⟨gb236, 0, none⟩ (.string ((rd_T27 x13_1 x15_1).f0))).setCell ⟨gb236, 1, none⟩ (.string ((rd_T27 x13_1 x15_1).f1)))).cell? _ = some _ from hx237_0))
           (try have hy237_1 := fun (n_ : Nat) => (show ((((w14.drewN n_).setCell ⟨gb236, 0, none⟩ (.string ((rd_T27 x13_1 x15_1).f0))).setCell ⟨gb236, 1, none⟩ (.string ((rd_T27 x13_1 x15_1).f1)))).cell? _ = some _ from hx237_1))
           clear hn237_0
           clear hn237_1
           replace p237 := eq_true p237
           replace q237 := eq_true q237
           have hcz22_0 : w14.cell? ⟨gb236, 0, none⟩ = some (.string (⟨#[]⟩ : ByteArray)) := (blk_cell BK236.out 0).trans rfl
           have hcz22_1 : w14.cell? ⟨gb236, 1, none⟩ = some (.string (⟨#[]⟩ : ByteArray)) := (blk_cell BK236.out 1).trans rfl
           have hfz22_0 := blk_frozen BK236.out 0
           have hfz22_1 := blk_frozen BK236.out 1
           have p238 : 0 ≤ ((ji18) : Int) := of_decide_eq_true (by first | (with_reducible assumption) | assumption)
           have q238 : (ji18) < (x4_1.length : Int) := of_decide_eq_true (by first | (with_reducible assumption) | assumption)
           obtain ⟨ad238, e238, hx238_0, hx238_1⟩ := at_T27 (Kd.R_reads' HO_4.out).2.2 (ji18) p238 q238
           obtain rfl : ad237 = ad238 := (by injection e238)
           have hn238_0 : ad237.block ≠ gb236 := (by first | exact Kd.own_blk (Kd.R_ne HO_4.out BK236.out (by decide)) | exact Kd.own_blk (Kd.R_away HO_4.out (fun _ hk => hk.2)) | exact Kd.own_blk (Kd.R_away HO_4.out (fun _ hk => hk.2.2)) | exact Kd.own_blk (Kd.R_away HO_4.out (fun _ hk => hk)))
           have hn238_1 : ad237.block ≠ gb236 := (by first | exact Kd.own_blk (Kd.R_ne HO_4.out BK236.out (by decide)) | exact Kd.own_blk (Kd.R_away HO_4.out (fun _ hk => hk.2)) | exact Kd.own_blk (Kd.R_away HO_4.out (fun _ hk => hk.2.2)) | exact Kd.own_blk (Kd.R_away HO_4.out (fun _ hk => hk)))
           replace hx238_0 := (cell_far (p := ⟨gb236, 0, none⟩) (by first | (rw [add_block]; exact hn238_0) | (show (Addr.add _ _).block ≠ _; rw [add_block]; exact hn238_0) | exact hn238_0) (.string ((rd_T27 x13_1 x15_1).f0))).trans hx238_0
           replace hx238_1 := (cell_far (p := ⟨gb236, 0, none⟩) (by first | (rw [add_block]; exact hn238_0) | (show (Addr.add _ _).block ≠ _; rw [add_block]; exact hn238_0) | exact hn238_0) (.string ((rd_T27 x13_1 x15_1).f0))).trans hx238_1
           replace hx238_0 := (cell_far (p := ⟨gb236, 1, none⟩) (by first | (rw [add_block]; exact hn238_1) | (show (Addr.add _ _).block ≠ _; rw [add_block]; exact hn238_1) | exact hn238_1) (.string ((rd_T27 x13_1 x15_1).f1))).trans hx238_0
           replace hx238_1 := (cell_far (p := ⟨gb236, 1, none⟩) (by first | (rw [add_block]; exact hn238_1) | (show (Addr.add _ _).block ≠ _; rw [add_block]; exact hn238_1) | exact hn238_1) (.string ((rd_T27 x13_1 x15_1).f1))).trans hx238_1
           (try have hy238_0 := fun (n_ : Nat) => (show ((((w14.drewN n_).setCell ⟨gb236, 0, none⟩ (.string ((rd_T27 x13_1 x15_1).f0))).setCell ⟨gb236, 1, none⟩ (.string ((rd_T27 x13_1 x15_1).f1)))).cell? _ = some _ from hx238_0))
           (try have hy238_1 := fun (n_ : Nat) => (show ((((w14.drewN n_).setCell ⟨gb236, 0, none⟩ (.string ((rd_T27 x13_1 x15_1).f0))).setCell ⟨gb236, 1, none⟩ (.string ((rd_T27 x13_1 x15_1).f1)))).cell? _ = some _ from hx238_1))
           clear hn238_0
           clear hn238_1
           replace p238 := eq_true p238
           replace q238 := eq_true q238
           go_wp2
           repeat (go_quiet (fail); try go_wp2)
           go_meet
           case rel => exact ⟨_, (!(Op.bytesLess (((rd_T27 x4_1 (ji18)).f1).toList) (((rd_T27 x13_1 x15_1).f0).toList))), (by first | rfl | (simp; done) | (simp only [← hji18] <;> (first | rfl | simp)) | (simp [*]; done)), H', ⟨by have := HK1.out; first | omega | exact Nat.le_refl _⟩, ⟨by (try simp only [hl13_1]); (with_reducible repeat (first | apply Kd.R_alloc | apply Kd.R_drewN | apply Kd.R_drew)); exact Kd.R_mono (Kd.R_far (p := ⟨gb236, 1, none⟩) (Kd.R_far (p := ⟨gb236, 0, none⟩) (Kd.R_mono HO_4.out (fun k_ hk => (⟨hk, hk.2⟩ : _ ∧ k_ ≠ gb236))) (fun _ hk => hk.2) (.string ((rd_T27 x13_1 x15_1).f0))) (fun _ hk => hk.2) (.string ((rd_T27 x13_1 x15_1).f1))) (fun _ hk => ⟨hk.1.1, hk.1.2⟩)⟩, ⟨by (try simp only [hl13_1]); (with_reducible repeat (first | apply Kd.R_alloc | apply Kd.R_drewN | apply Kd.R_drew)); exact Kd.R_mono (Kd.R_far (p := ⟨gb236, 1, none⟩) (Kd.R_far (p := ⟨gb236, 0, none⟩) (Kd.R_mono HO_13.out (fun k_ hk => (⟨hk, hk.2⟩ : _ ∧ k_ ≠ gb236))) (fun _ hk => hk.2) (.string ((rd_T27 x13_1 x15_1).f0))) (fun _ hk => hk.2) (.string ((rd_T27 x13_1 x15_1).f1))) (fun _ hk => ⟨hk.1.1, hk.1.2⟩)⟩, ⟨by (try simp only [hl13_1]); (with_reducible repeat (first | refine blk_drewN ?_ _ | refine blk_drew ?_ | refine blk_alloc ?_ _)); refine blk_put (cs := #[.string ((rd_T27 x13_1 x15_1).f0), .string (⟨#[]⟩ : ByteArray)]) ?_ 1 _ rfl; (with_reducible repeat (first | refine blk_drewN ?_ _ | refine blk_drew ?_ | refine blk_alloc ?_ _)); refine blk_put (cs := #[.string (⟨#[]⟩ : ByteArray), .string (⟨#[]⟩ : ByteArray)]) ?_ 0 _ rfl; (with_reducible repeat (first | refine blk_drewN ?_ _ | refine blk_drew ?_ | refine blk_alloc ?_ _)); exact BK236.out⟩, ⟨by repeat (first | (with_reducible first | exact HB.out | apply below_alloc | apply pw_below_drewN | apply below_drew1 | refine below_set ?_ GE236.out) | exact HB.out)⟩⟩
         ·
          rw [if_neg c20] at H
          exact absurd H (by simp)
        ·
         rw [if_neg c19] at H
         exact absurd H (by simp)
       ·
        rw [if_neg c17] at H
        have c17b0 : decide (0 < (x4_1.length : Int)) = false := decide_eq_false c17
        have c17b9 := c17b0
        (try rw [hl13_1] at c17b9)
        have c17b1 : decide (0 < x4_1.length) = false := decide_eq_false (by omega)
        clear c17
        (first | rw [c17b0] | (simp only [i64_w, i32_w]; rw [c17b0]) | skip)
        have H' := Aside0.mk H
        clear H
        go_wp2
        repeat (go_quiet (fail); try go_wp2)
        go_meet
        case rel => exact ⟨_, (false), (by first | rfl | (simp; done) | (simp [*]; done)), H', ⟨by have := HK1.out; first | omega | exact Nat.le_refl _⟩, ⟨by (try simp only [hl13_1]); (with_reducible repeat (first | apply Kd.R_alloc | apply Kd.R_drewN | apply Kd.R_drew)); exact Kd.R_mono (Kd.R_far (p := ⟨gb236, 1, none⟩) (Kd.R_far (p := ⟨gb236, 0, none⟩) (Kd.R_mono HO_4.out (fun k_ hk => (⟨hk, hk.2⟩ : _ ∧ k_ ≠ gb236))) (fun _ hk => hk.2) (.string ((rd_T27 x13_1 x15_1).f0))) (fun _ hk => hk.2) (.string ((rd_T27 x13_1 x15_1).f1))) (fun _ hk => ⟨hk.1.1, hk.1.2⟩)⟩, ⟨by (try simp only [hl13_1]); (with_reducible repeat (first | apply Kd.R_alloc | apply Kd.R_drewN | apply Kd.R_drew)); exact Kd.R_mono (Kd.R_far (p := ⟨gb236, 1, none⟩) (Kd.R_far (p := ⟨gb236, 0, none⟩) (Kd.R_mono HO_13.out (fun k_ hk => (⟨hk, hk.2⟩ : _ ∧ k_ ≠ gb236))) (fun _ hk => hk.2) (.string ((rd_T27 x13_1 x15_1).f0))) (fun _ hk => hk.2) (.string ((rd_T27 x13_1 x15_1).f1))) (fun _ hk => ⟨hk.1.1, hk.1.2⟩)⟩, ⟨by (try simp only [hl13_1]); (with_reducible repeat (first | refine blk_drewN ?_ _ | refine blk_drew ?_ | refine blk_alloc ?_ _)); refine blk_put (cs := #[.string ((rd_T27 x13_1 x15_1).f0), .string (⟨#[]⟩ : ByteArray)]) ?_ 1 _ rfl; (with_reducible repeat (first | refine blk_drewN ?_ _ | refine blk_drew ?_ | refine blk_alloc ?_ _)); refine blk_put (cs := #[.string (⟨#[]⟩ : ByteArray), .string (⟨#[]⟩ : ByteArray)]) ?_ 0 _ rfl; (with_reducible repeat (first | refine blk_drewN ?_ _ | refine blk_drew ?_ | refine blk_alloc ?_ _)); exact BK236.out⟩, ⟨by repeat (first | (with_reducible first | exact HB.out | apply below_alloc | apply pw_below_drewN | apply below_drew1 | refine below_set ?_ GE236.out) | exact HB.out)⟩⟩
      case rest =>
       clear HC13
       try clear c1
       try clear c2
       try clear p2
       try clear q2
       try clear hx2
       try clear p6
       try clear c10
       try clear c10b0
       try clear c11
       try clear c11b0
       try clear c12
       try clear c12b0
       try clear c17
       try clear c17b0
       try clear c17b1
       try clear c19
       try clear c19b0
       try clear c20
       try clear c20b0
       try clear c21
       try clear c21b0
       try clear c21b1
       try clear hcz15_0
       try clear hcz15_1
       try clear hcz22_0
       try clear hcz22_1
       try clear hfz15_0
       try clear hfz15_1
       try clear hfz22_0
       try clear hfz22_1
       try clear hx235_0
       try clear hx235_1
       try clear hx237_0
       try clear hx237_1
       try clear hx238_0
       try clear hx238_1
       try clear p2
       try clear p235
       try clear p237
       try clear p238
       try clear q235
       try clear q237
       try clear q238
       obtain ⟨kq, x42_12, rfl, HA, HJ12, HO_4, HO_13, BK236, HB⟩ := hcut
       cases kq with
       | zero => exact absurd HA.out (by simp [keys_Union.j1])
       | succ kj12 =>
        have H := HA.out
        clear HA
        simp only [keys_Union.j1] at H
        by_cases c23 : x42_12 = true
        ·
         subst c23
         have H1 : (if 0 ≤ (wrap64 ((x4_1.length : Int) - 1)) then (if (wrap64 ((x4_1.length : Int) - 1)) < (x4_1.length : Int) then (if ((rd_T27 x4_1 (wrap64 ((x4_1.length : Int) - 1))).f1).toList = ([] : List UInt8) then (keys_Union.l0 kj12 x4_1 x13_1 (t231.length : Int) (wrap64 (x15_1 + 1))) else (if ((rd_T27 x13_1 x15_1).f1).toList = ([] : List UInt8) then (keys_Union.l0 kj12 (x4_1.set ((wrap64 ((x4_1.length : Int) - 1)) : Int).toNat (⟨(rd_T27 x4_1 (wrap64 ((x4_1.length : Int) - 1))).f0, ((rd_T27 x13_1 x15_1).f1)⟩ : S27)) x13_1 (t231.length : Int) (wrap64 (x15_1 + 1))) else (if (Op.bytesLess (((rd_T27 x4_1 (wrap64 ((x4_1.length : Int) - 1))).f1).toList) ((rd_T27 x13_1 x15_1).f1).toList) = true then (keys_Union.l0 kj12 (x4_1.set ((wrap64 ((x4_1.length : Int) - 1)) : Int).toNat (⟨(rd_T27 x4_1 (wrap64 ((x4_1.length : Int) - 1))).f0, ((rd_T27 x13_1 x15_1).f1)⟩ : S27)) x13_1 (t231.length : Int) (wrap64 (x15_1 + 1))) else (keys_Union.l0 kj12 x4_1 x13_1 (t231.length : Int) (wrap64 (x15_1 + 1)))))) else (none)) else (none)) = some r := by rw [if_pos rfl] at H; first | done | exact H
         clear H
         have H := H1
         clear H1
         obtain ⟨ji24, hji24⟩ : ∃ j_ : Int, (wrap64 ((x4_1.length : Int) - 1)) = j_ := ⟨_, rfl⟩
         replace H : (if 0 ≤ (ji24) then (if (ji24) < (x4_1.length : Int) then (if ((rd_T27 x4_1 (ji24)).f1).toList = ([] : List UInt8) then (keys_Union.l0 kj12 x4_1 x13_1 (t231.length : Int) (wrap64 (x15_1 + 1))) else (if ((rd_T27 x13_1 x15_1).f1).toList = ([] : List UInt8) then (keys_Union.l0 kj12 (x4_1.set ((ji24) : Int).toNat (⟨(rd_T27 x4_1 (ji24)).f0, ((rd_T27 x13_1 x15_1).f1)⟩ : S27)) x13_1 (t231.length : Int) (wrap64 (x15_1 + 1))) else (if (Op.bytesLess (((rd_T27 x4_1 (ji24)).f1).toList) ((rd_T27 x13_1 x15_1).f1).toList) = true then (keys_Union.l0 kj12 (x4_1.set ((ji24) : Int).toNat (⟨(rd_T27 x4_1 (ji24)).f0, ((rd_T27 x13_1 x15_1).f1)⟩ : S27)) x13_1 (t231.length : Int) (wrap64 (x15_1 + 1))) else (keys_Union.l0 kj12 x4_1 x13_1 (t231.length : Int) (wrap64 (x15_1 + 1)))))) else (none)) else (none)) = some r := by first | (rw [hji24] at H; first | done | exact H) | (simp only [hji24] at H ⊢; exact H)
         have hji24w : (IntKind.i64.wrap ((x4_1.length : Int) - 1)) = ji24 := (i64_w _).trans hji24
         by_cases c25 : 0 ≤ (ji24)
         ·
          rw [if_pos c25] at H
          have c25b0 : decide (0 ≤ (ji24)) = true := decide_eq_true c25
          clear c25
          by_cases c26 : (ji24) < (x4_1.length : Int)
          ·
           rw [if_pos c26] at H
           have c26b0 : decide ((ji24) < (x4_1.length : Int)) = true := decide_eq_true c26
           clear c26
           by_cases c27 : ((rd_T27 x4_1 (ji24)).f1).toList = ([] : List UInt8)
           ·
            rw [if_pos c27] at H
            have c27b0 : (((rd_T27 x4_1 (ji24)).f1).toList == ([] : List UInt8)) = true := beq_iff_eq.mpr c27
            have c27b1 : (((rd_T27 x4_1 (ji24)).f1).toList != ([] : List UInt8)) = false := bne_eq_false_iff_eq.mpr c27
            clear c27
            have H' := Aside0.mk H
            clear H
            have p239 : 0 ≤ ((ji24) : Int) := of_decide_eq_true (by first | (with_reducible assumption) | assumption)
            have q239 : (ji24) < (x4_1.length : Int) := of_decide_eq_true (by first | (with_reducible assumption) | assumption)
            obtain ⟨ad239, e239, hx239_0, hx239_1⟩ := at_T27 (Kd.R_reads' HO_4.out).2.2 (ji24) p239 q239
            cases e239
            replace p239 := eq_true p239
            replace q239 := eq_true q239
            go_wp2
            repeat (go_quiet (fail); try go_wp2)
            (try simp only [← hl13_1])
            go_roundg kj12
            case measure => have := HK1.out; have := HJ12.out; omega
            case rel => exact ⟨(x4_1), (x13_1), (wrap64 (x15_1 + 1)), (by first | rfl | (simp; done) | (simp [*]; done)), H', ⟨by have := HK1.out; have := HJ12.out; omega⟩, ⟨by (try simp only [hl13_1]); (with_reducible repeat (first | apply Kd.R_alloc | apply Kd.R_drewN | apply Kd.R_drew)); exact Kd.R_mono HO_4.out (fun _ hk => hk.1)⟩, ⟨by (try simp only [hl13_1]); (with_reducible repeat (first | apply Kd.R_alloc | apply Kd.R_drewN | apply Kd.R_drew)); exact Kd.R_mono HO_13.out (fun _ hk => hk.1)⟩, ⟨by repeat (first | (with_reducible first | exact HB.out | apply below_alloc | apply pw_below_drewN | apply below_drew1 | refine below_set ?_ GE236.out) | exact HB.out)⟩⟩
           ·
            rw [if_neg c27] at H
            have c27b0 : (((rd_T27 x4_1 (ji24)).f1).toList == ([] : List UInt8)) = false := beq_eq_false_iff_ne.mpr c27
            have c27b1 : (((rd_T27 x4_1 (ji24)).f1).toList != ([] : List UInt8)) = true := bne_iff_ne.mpr c27
            by_cases c28 : ((rd_T27 x13_1 x15_1).f1).toList = ([] : List UInt8)
            ·
             rw [if_pos c28] at H
             have c28b0 : (((rd_T27 x13_1 x15_1).f1).toList == ([] : List UInt8)) = true := beq_iff_eq.mpr c28
             have c28b1 : (((rd_T27 x13_1 x15_1).f1).toList != ([] : List UInt8)) = false := bne_eq_false_iff_eq.mpr c28
             clear c28
             obtain ⟨y240, hy240⟩ : ∃ y_ : List (S27), y_ = (x4_1.set ((ji24) : Int).toNat (⟨(rd_T27 x4_1 (ji24)).f0, ((rd_T27 x13_1 x15_1).f1)⟩ : S27)) := ⟨_, rfl⟩
             replace H : (keys_Union.l0 kj12 y240 x13_1 (t231.length : Int) (wrap64 (x15_1 + 1))) = some r := by first | (rw [hy240]; with_reducible exact H) | (have H2_ := (Option.bind_some _ _).symm.trans H; rw [hy240]; with_reducible exact H2_) | (have H2_ := (Option.bind_some _ _).symm.trans H; with_reducible exact H2_) | with_reducible exact H | (rw [hy240]; exact H) | exact H
             have Ny240 := Aside0.mk hy240
             clear hy240
             have H' := Aside0.mk H
             clear H
             have p239 : 0 ≤ ((ji24) : Int) := of_decide_eq_true (by first | (with_reducible assumption) | assumption)
             have q239 : (ji24) < (x4_1.length : Int) := of_decide_eq_true (by first | (with_reducible assumption) | assumption)
             obtain ⟨ad239, e239, hx239_0, hx239_1⟩ := at_T27 (Kd.R_reads' HO_4.out).2.2 (ji24) p239 q239
             cases e239
             replace p239 := eq_true p239
             replace q239 := eq_true q239
             have hcz30_0 : wc.cell? ⟨gb236, 0, none⟩ = some (.string ((rd_T27 x13_1 x15_1).f0)) := (blk_cell BK236.out 0).trans rfl
             have hcz30_1 : wc.cell? ⟨gb236, 1, none⟩ = some (.string ((rd_T27 x13_1 x15_1).f1)) := (blk_cell BK236.out 1).trans rfl
             have hfz30_0 := blk_frozen BK236.out 0
             have hfz30_1 := blk_frozen BK236.out 1
             have p29 : 0 ≤ ((ji24) : Int) := of_decide_eq_true (by first | (with_reducible assumption) | assumption)
             have q29 : ((ji24) : Int) < ((x4_1.length : Int) : Int) := of_decide_eq_true (by first | (with_reducible assumption) | assumption)
             obtain ⟨go29, co29, eo29, gb29, gl29, cl29, HG29⟩ := Kd.R_form HO_4.out (by omega)
             (first | cases eo29 | (injection eo29 with ea_ en_ ec_; (first | subst ea_ | (injection ea_ with ea_; subst ea_)); subst ec_; clear en_))
             have GB29 := Aside0.mk gb29
             have GG29 := Aside0.mk HG29
             clear gb29 gl29 HG29
             (first | simp only [add_plain] at hx239_0 | skip)
             (first | simp only [add_plain] at hx239_1 | skip)
             obtain ⟨ce29, hcl29, hM29, hcc29, hfr29⟩ := Kd.R_elem HO_4.out z27 ((ji24) : Int) p29 q29
             obtain rfl := k27_openM hM29
             have hx29_0 : wc.cell? ⟨go29, ((ji24) : Int).toNat * 2, none⟩ = some (.string ((rd_T27 x4_1 (ji24)).f0)) := hcc29 0 _ rfl
             have hx29_1 : wc.cell? ⟨go29, ((ji24) : Int).toNat * 2 + 1, none⟩ = some (.string ((rd_T27 x4_1 (ji24)).f1)) := hcc29 1 _ rfl
             have hf29_0 : wc.frozen? ⟨go29, ((ji24) : Int).toNat * 2, none⟩ = false := hfr29 0
             have hf29_1 : wc.frozen? ⟨go29, ((ji24) : Int).toNat * 2 + 1, none⟩ = false := hfr29 1
             clear hcl29 hcc29 hfr29 hM29
             replace p29 := eq_true p29
             replace q29 := eq_true q29
             have HX31 := Aside0.mk (show Kd.R k27 27 wc w.heap.size (fun k_ => some k_ ≠ (.slice (some ad235) x13_1.length co8 : Value).ownBlock ∧ k_ ≠ gb236) (.slice (some ⟨go29, 0, none⟩) x4_1.length co16) x4_1 from (by (with_reducible repeat (first | apply Kd.R_alloc | apply Kd.R_drewN | apply Kd.R_drew)); exact HO_4.out))
             obtain ⟨ce31, hcl31, hM31, hcc31, hfr31⟩ := Kd.R_elem HX31.out z27 ((ji24) : Int) (of_decide_eq_true (by first | (with_reducible assumption) | assumption)) (by have h_ : ((ji24) : Int) < ((x4_1.length : Int) : Int) := of_decide_eq_true (by first | (with_reducible assumption) | assumption); first | exact h_ | (have e_ := (Kd.R_reads' HO_4.out).1; omega) | simpa using h_)
             obtain rfl := k27_openM hM31
             have HP31 := Kd.R_seg HX31.out ((ji24) : Int) (of_decide_eq_true (by first | (with_reducible assumption) | assumption)) (by have h_ : ((ji24) : Int) < ((x4_1.length : Int) : Int) := of_decide_eq_true (by first | (with_reducible assumption) | assumption); first | exact h_ | (have e_ := (Kd.R_reads' HO_4.out).1; omega) | simpa using h_) (seg := [.string ((rd_T27 x13_1 x15_1).f1)]) (j := 1) hcl31 hcc31 (show 2 ≤ 2 from by decide) (x' := (⟨(rd_T27 x4_1 (ji24)).f0, ((rd_T27 x13_1 x15_1).f1)⟩ : S27)) (k27_mkM _ _ _ (⟨(rd_T27 x4_1 (ji24)).f0, ((rd_T27 x13_1 x15_1).f1)⟩ : S27) ) (fun _ hk => hk)
             have hx31_1 := hcc31 1 _ rfl
             (try simp only [show (k27).sz = 2 from rfl, Nat.mul_one, Nat.add_zero] at hx31_1)
             have hf31_1 := hfr31 1
             (try simp only [show (k27).sz = 2 from rfl, Nat.mul_one, Nat.add_zero] at hf31_1)
             clear hcl31 hcc31 hfr31 hM31
             go_wp2_with (first | ((with_reducible refine gate_store (t := 9) (p := 72) rfl ?_); (try (rw [drewN_self wc]; generalize hq_ : World.drewN wc _ = wc; have n0_ := Aside0.mk (Kd.R_at hq_ HO_4.out); have n1_ := Aside0.mk (Kd.R_at hq_ HO_13.out); have n2_ := Aside0.mk (blk_at hq_ BK236.out); have n3_ := Aside0.mk (below_at hq_ HB.out); clear hq_ HO_4 HO_13 BK236 HB; have HO_4 := n0_; have HO_13 := n1_; have BK236 := n2_; have HB := n3_; clear n0_ n1_ n2_ n3_; (try (have HX31 := Aside0.mk (show Kd.R k27 27 wc w.heap.size (fun k_ => some k_ ≠ (.slice (some ad235) x13_1.length co8 : Value).ownBlock ∧ k_ ≠ gb236) (.slice (some ⟨go29, 0, none⟩) x4_1.length co16) x4_1 from (by (with_reducible repeat (first | apply Kd.R_alloc | apply Kd.R_drewN | apply Kd.R_drew)); exact HO_4.out)))); (try (obtain ⟨ce31, hcl31, hM31, hcc31, hfr31⟩ := Kd.R_elem HX31.out z27 ((ji24) : Int) (of_decide_eq_true (by first | (with_reducible assumption) | assumption)) (by have h_ : ((ji24) : Int) < ((x4_1.length : Int) : Int) := of_decide_eq_true (by first | (with_reducible assumption) | assumption); first | exact h_ | (have e_ := (Kd.R_reads' HO_4.out).1; omega) | simpa using h_))); (try (obtain rfl := k27_openM hM31)); (try (have HP31 := Kd.R_seg HX31.out ((ji24) : Int) (of_decide_eq_true (by first | (with_reducible assumption) | assumption)) (by have h_ : ((ji24) : Int) < ((x4_1.length : Int) : Int) := of_decide_eq_true (by first | (with_reducible assumption) | assumption); first | exact h_ | (have e_ := (Kd.R_reads' HO_4.out).1; omega) | simpa using h_) (seg := [.string ((rd_T27 x13_1 x15_1).f1)]) (j := 1) hcl31 hcc31 (show 2 ≤ 2 from by decide) (x' := (⟨(rd_T27 x4_1 (ji24)).f0, ((rd_T27 x13_1 x15_1).f1)⟩ : S27)) (k27_mkM _ _ _ (⟨(rd_T27 x4_1 (ji24)).f0, ((rd_T27 x13_1 x15_1).f1)⟩ : S27) ) (fun _ hk => hk))); (try (have hx31_1 := hcc31 1 _ rfl)); (try (try simp only [show (k27).sz = 2 from rfl, Nat.mul_one, Nat.add_zero] at hx31_1)); (try (have hf31_1 := hfr31 1)); (try (try simp only [show (k27).sz = 2 from rfl, Nat.mul_one, Nat.add_zero] at hf31_1)); (try (clear hcl31 hcc31 hfr31 hM31)))); refine store_event (t := 9) (p := 72) (v := ?vo_w32) (w1 := (wc.setCell ⟨go29, ((ji24) : Int).toNat * 2 + 1, none⟩ (.string ((rd_T27 x13_1 x15_1).f1)))) ?hg ?ho ?hn ?hr ?_; (case ho => rfl); (case hg => rfl); (case hn => rfl); (case hr => first | (go_simp; done) | (go_simp; rfl)); intro w32 hw; have hg : wc.grownBy w32 (some go29) := (by rw [hw]; exact HP31.2); have hp_ : Kd.R k27 27 w32 w.heap.size (fun k_ => some k_ ≠ (.slice (some ad235) x13_1.length co8 : Value).ownBlock ∧ k_ ≠ gb236) (.slice (some ⟨go29, 0, none⟩) x4_1.length co16) y240 := (by rw [hw, Ny240.out]; exact HP31.1); clear HP31; have n0_ := Aside0.mk (hp_); have n1_ := Aside0.mk (Kd.R_after (v := (.slice (some ⟨go29, 0, none⟩) x4_1.length co16)) (v1 := (.slice (some ⟨go29, 0, none⟩) x4_1.length co16)) (ok := (fun k_ => k_ ≠ gb236)) (by (with_reducible repeat (first | apply Kd.R_alloc | apply Kd.R_drewN | apply Kd.R_drew)); exact Kd.R_mono HO_13.out (fun _ hk => ⟨hk.2, hk.1⟩)) hg (.inl rfl)); have n2_ := Aside0.mk (blk_grown (g := gb236) (o := .cells #[.string ((rd_T27 x13_1 x15_1).f0), .string ((rd_T27 x13_1 x15_1).f1)] 27 (0, 0)) (by (with_reducible repeat (first | refine blk_drewN ?_ _ | refine blk_drew ?_ | refine blk_alloc ?_ _)); exact BK236.out) hg (Kd.R_away HO_4.out (fun _ hk => hk.2))); have n3_ := Aside0.mk ((by rw [hw]; exact below_set (HB.out) GB29.out : Below w.heap.size w w32)); clear HO_4; clear HO_13; clear BK236; clear HB; have HO_4 := n0_; have HO_13 := n1_; have BK236 := n2_; have HB := n3_; clear n0_ n1_ n2_ n3_; clear hg hw hp_))
             repeat (go_quiet (first | ((with_reducible refine gate_store (t := 9) (p := 72) rfl ?_); (try (rw [drewN_self wc]; generalize hq_ : World.drewN wc _ = wc; have n0_ := Aside0.mk (Kd.R_at hq_ HO_4.out); have n1_ := Aside0.mk (Kd.R_at hq_ HO_13.out); have n2_ := Aside0.mk (blk_at hq_ BK236.out); have n3_ := Aside0.mk (below_at hq_ HB.out); clear hq_ HO_4 HO_13 BK236 HB; have HO_4 := n0_; have HO_13 := n1_; have BK236 := n2_; have HB := n3_; clear n0_ n1_ n2_ n3_; (try (have HX31 := Aside0.mk (show Kd.R k27 27 wc w.heap.size (fun k_ => some k_ ≠ (.slice (some ad235) x13_1.length co8 : Value).ownBlock ∧ k_ ≠ gb236) (.slice (some ⟨go29, 0, none⟩) x4_1.length co16) x4_1 from (by (with_reducible repeat (first | apply Kd.R_alloc | apply Kd.R_drewN | apply Kd.R_drew)); exact HO_4.out)))); (try (obtain ⟨ce31, hcl31, hM31, hcc31, hfr31⟩ := Kd.R_elem HX31.out z27 ((ji24) : Int) (of_decide_eq_true (by first | (with_reducible assumption) | assumption)) (by have h_ : ((ji24) : Int) < ((x4_1.length : Int) : Int) := of_decide_eq_true (by first | (with_reducible assumption) | assumption); first | exact h_ | (have e_ := (Kd.R_reads' HO_4.out).1; omega) | simpa using h_))); (try (obtain rfl := k27_openM hM31)); (try (have HP31 := Kd.R_seg HX31.out ((ji24) : Int) (of_decide_eq_true (by first | (with_reducible assumption) | assumption)) (by have h_ : ((ji24) : Int) < ((x4_1.length : Int) : Int) := of_decide_eq_true (by first | (with_reducible assumption) | assumption); first | exact h_ | (have e_ := (Kd.R_reads' HO_4.out).1; omega) | simpa using h_) (seg := [.string ((rd_T27 x13_1 x15_1).f1)]) (j := 1) hcl31 hcc31 (show 2 ≤ 2 from by decide) (x' := (⟨(rd_T27 x4_1 (ji24)).f0, ((rd_T27 x13_1 x15_1).f1)⟩ : S27)) (k27_mkM _ _ _ (⟨(rd_T27 x4_1 (ji24)).f0, ((rd_T27 x13_1 x15_1).f1)⟩ : S27) ) (fun _ hk => hk))); (try (have hx31_1 := hcc31 1 _ rfl)); (try (try simp only [show (k27).sz = 2 from rfl, Nat.mul_one, Nat.add_zero] at hx31_1)); (try (have hf31_1 := hfr31 1)); (try (try simp only [show (k27).sz = 2 from rfl, Nat.mul_one, Nat.add_zero] at hf31_1)); (try (clear hcl31 hcc31 hfr31 hM31)))); refine store_event (t := 9) (p := 72) (v := ?vo_w32) (w1 := (wc.setCell ⟨go29, ((ji24) : Int).toNat * 2 + 1, none⟩ (.string ((rd_T27 x13_1 x15_1).f1)))) ?hg ?ho ?hn ?hr ?_; (case ho => rfl); (case hg => rfl); (case hn => rfl); (case hr => first | (go_simp; done) | (go_simp; rfl)); intro w32 hw; have hg : wc.grownBy w32 (some go29) := (by rw [hw]; exact HP31.2); have hp_ : Kd.R k27 27 w32 w.heap.size (fun k_ => some k_ ≠ (.slice (some ad235) x13_1.length co8 : Value).ownBlock ∧ k_ ≠ gb236) (.slice (some ⟨go29, 0, none⟩) x4_1.length co16) y240 := (by rw [hw, Ny240.out]; exact HP31.1); clear HP31; have n0_ := Aside0.mk (hp_); have n1_ := Aside0.mk (Kd.R_after (v := (.slice (some ⟨go29, 0, none⟩) x4_1.length co16)) (v1 := (.slice (some ⟨go29, 0, none⟩) x4_1.length co16)) (ok := (fun k_ => k_ ≠ gb236)) (by (with_reducible repeat (first | apply Kd.R_alloc | apply Kd.R_drewN | apply Kd.R_drew)); exact Kd.R_mono HO_13.out (fun _ hk => ⟨hk.2, hk.1⟩)) hg (.inl rfl)); have n2_ := Aside0.mk (blk_grown (g := gb236) (o := .cells #[.string ((rd_T27 x13_1 x15_1).f0), .string ((rd_T27 x13_1 x15_1).f1)] 27 (0, 0)) (by (with_reducible repeat (first | refine blk_drewN ?_ _ | refine blk_drew ?_ | refine blk_alloc ?_ _)); exact BK236.out) hg (Kd.R_away HO_4.out (fun _ hk => hk.2))); have n3_ := Aside0.mk ((by rw [hw]; exact below_set (HB.out) GB29.out : Below w.heap.size w w32)); clear HO_4; clear HO_13; clear BK236; clear HB; have HO_4 := n0_; have HO_13 := n1_; have BK236 := n2_; have HB := n3_; clear n0_ n1_ n2_ n3_; clear hg hw hp_)); try go_wp2_with (first | ((with_reducible refine gate_store (t := 9) (p := 72) rfl ?_); (try (rw [drewN_self wc]; generalize hq_ : World.drewN wc _ = wc; have n0_ := Aside0.mk (Kd.R_at hq_ HO_4.out); have n1_ := Aside0.mk (Kd.R_at hq_ HO_13.out); have n2_ := Aside0.mk (blk_at hq_ BK236.out); have n3_ := Aside0.mk (below_at hq_ HB.out); clear hq_ HO_4 HO_13 BK236 HB; have HO_4 := n0_; have HO_13 := n1_; have BK236 := n2_; have HB := n3_; clear n0_ n1_ n2_ n3_; (try (have HX31 := Aside0.mk (show Kd.R k27 27 wc w.heap.size (fun k_ => some k_ ≠ (.slice (some ad235) x13_1.length co8 : Value).ownBlock ∧ k_ ≠ gb236) (.slice (some ⟨go29, 0, none⟩) x4_1.length co16) x4_1 from (by (with_reducible repeat (first | apply Kd.R_alloc | apply Kd.R_drewN | apply Kd.R_drew)); exact HO_4.out)))); (try (obtain ⟨ce31, hcl31, hM31, hcc31, hfr31⟩ := Kd.R_elem HX31.out z27 ((ji24) : Int) (of_decide_eq_true (by first | (with_reducible assumption) | assumption)) (by have h_ : ((ji24) : Int) < ((x4_1.length : Int) : Int) := of_decide_eq_true (by first | (with_reducible assumption) | assumption); first | exact h_ | (have e_ := (Kd.R_reads' HO_4.out).1; omega) | simpa using h_))); (try (obtain rfl := k27_openM hM31)); (try (have HP31 := Kd.R_seg HX31.out ((ji24) : Int) (of_decide_eq_true (by first | (with_reducible assumption) | assumption)) (by have h_ : ((ji24) : Int) < ((x4_1.length : Int) : Int) := of_decide_eq_true (by first | (with_reducible assumption) | assumption); first | exact h_ | (have e_ := (Kd.R_reads' HO_4.out).1; omega) | simpa using h_) (seg := [.string ((rd_T27 x13_1 x15_1).f1)]) (j := 1) hcl31 hcc31 (show 2 ≤ 2 from by decide) (x' := (⟨(rd_T27 x4_1 (ji24)).f0, ((rd_T27 x13_1 x15_1).f1)⟩ : S27)) (k27_mkM _ _ _ (⟨(rd_T27 x4_1 (ji24)).f0, ((rd_T27 x13_1 x15_1).f1)⟩ : S27) ) (fun _ hk => hk))); (try (have hx31_1 := hcc31 1 _ rfl)); (try (try simp only [show (k27).sz = 2 from rfl, Nat.mul_one, Nat.add_zero] at hx31_1)); (try (have hf31_1 := hfr31 1)); (try (try simp only [show (k27).sz = 2 from rfl, Nat.mul_one, Nat.add_zero] at hf31_1)); (try (clear hcl31 hcc31 hfr31 hM31)))); refine store_event (t := 9) (p := 72) (v := ?vo_w32) (w1 := (wc.setCell ⟨go29, ((ji24) : Int).toNat * 2 + 1, none⟩ (.string ((rd_T27 x13_1 x15_1).f1)))) ?hg ?ho ?hn ?hr ?_; (case ho => rfl); (case hg => rfl); (case hn => rfl); (case hr => first | (go_simp; done) | (go_simp; rfl)); intro w32 hw; have hg : wc.grownBy w32 (some go29) := (by rw [hw]; exact HP31.2); have hp_ : Kd.R k27 27 w32 w.heap.size (fun k_ => some k_ ≠ (.slice (some ad235) x13_1.length co8 : Value).ownBlock ∧ k_ ≠ gb236) (.slice (some ⟨go29, 0, none⟩) x4_1.length co16) y240 := (by rw [hw, Ny240.out]; exact HP31.1); clear HP31; have n0_ := Aside0.mk (hp_); have n1_ := Aside0.mk (Kd.R_after (v := (.slice (some ⟨go29, 0, none⟩) x4_1.length co16)) (v1 := (.slice (some ⟨go29, 0, none⟩) x4_1.length co16)) (ok := (fun k_ => k_ ≠ gb236)) (by (with_reducible repeat (first | apply Kd.R_alloc | apply Kd.R_drewN | apply Kd.R_drew)); exact Kd.R_mono HO_13.out (fun _ hk => ⟨hk.2, hk.1⟩)) hg (.inl rfl)); have n2_ := Aside0.mk (blk_grown (g := gb236) (o := .cells #[.string ((rd_T27 x13_1 x15_1).f0), .string ((rd_T27 x13_1 x15_1).f1)] 27 (0, 0)) (by (with_reducible repeat (first | refine blk_drewN ?_ _ | refine blk_drew ?_ | refine blk_alloc ?_ _)); exact BK236.out) hg (Kd.R_away HO_4.out (fun _ hk => hk.2))); have n3_ := Aside0.mk ((by rw [hw]; exact below_set (HB.out) GB29.out : Below w.heap.size w w32)); clear HO_4; clear HO_13; clear BK236; clear HB; have HO_4 := n0_; have HO_13 := n1_; have BK236 := n2_; have HB := n3_; clear n0_ n1_ n2_ n3_; clear hg hw hp_)))
             (try simp only [← hl13_1])
             go_roundg kj12
             case measure => have := HK1.out; have := HJ12.out; omega
             case rel => exact ⟨(y240), (x13_1), (wrap64 (x15_1 + 1)), (by first | rfl | (simp; done) | (simp [*]; done)), H', ⟨by have := HK1.out; have := HJ12.out; omega⟩, ⟨by (try simp only [hl13_1]); (with_reducible repeat (first | apply Kd.R_alloc | apply Kd.R_drewN | apply Kd.R_drew)); exact Kd.R_mono HO_4.out (fun _ hk => hk.1)⟩, ⟨by (try simp only [hl13_1]); (with_reducible repeat (first | apply Kd.R_alloc | apply Kd.R_drewN | apply Kd.R_drew)); exact Kd.R_mono HO_13.out (fun _ hk => hk.2)⟩, ⟨by repeat (first | (with_reducible first | exact HB.out | apply below_alloc | apply pw_below_drewN | apply below_drew1 | refine below_set ?_ GE236.out) | exact HB.out)⟩⟩
            ·
             rw [if_neg c28] at H
             have c28b0 : (((rd_T27 x13_1 x15_1).f1).toList == ([] : List UInt8)) = false := beq_eq_false_iff_ne.mpr c28
             have c28b1 : (((rd_T27 x13_1 x15_1).f1).toList != ([] : List UInt8)) = true := bne_iff_ne.mpr c28
             by_cases c33 : (Op.bytesLess (((rd_T27 x4_1 (ji24)).f1).toList) ((rd_T27 x13_1 x15_1).f1).toList) = true
             ·
              rw [if_pos c33] at H
              have c33b0 : (Op.bytesLess (((rd_T27 x4_1 (ji24)).f1).toList) ((rd_T27 x13_1 x15_1).f1).toList) = true := c33
              clear c33
              obtain ⟨y242, hy242⟩ : ∃ y_ : List (S27), y_ = (x4_1.set ((ji24) : Int).toNat (⟨(rd_T27 x4_1 (ji24)).f0, ((rd_T27 x13_1 x15_1).f1)⟩ : S27)) := ⟨_, rfl⟩
              replace H : (keys_Union.l0 kj12 y242 x13_1 (t231.length : Int) (wrap64 (x15_1 + 1))) = some r := by first | (rw [hy242]; with_reducible exact H) | (have H2_ := (Option.bind_some _ _).symm.trans H; rw [hy242]; with_reducible exact H2_) | (have H2_ := (Option.bind_some _ _).symm.trans H; with_reducible exact H2_) | with_reducible exact H | (rw [hy242]; exact H) | exact H
              have Ny242 := Aside0.mk hy242
              clear hy242
              have H' := Aside0.mk H
              clear H
              have p239 : 0 ≤ ((ji24) : Int) := of_decide_eq_true (by first | (with_reducible assumption) | assumption)
              have q239 : (ji24) < (x4_1.length : Int) := of_decide_eq_true (by first | (with_reducible assumption) | assumption)
              obtain ⟨ad239, e239, hx239_0, hx239_1⟩ := at_T27 (Kd.R_reads' HO_4.out).2.2 (ji24) p239 q239
              cases e239
              replace p239 := eq_true p239
              replace q239 := eq_true q239
              have hcz35_0 : wc.cell? ⟨gb236, 0, none⟩ = some (.string ((rd_T27 x13_1 x15_1).f0)) := (blk_cell BK236.out 0).trans rfl
              have hcz35_1 : wc.cell? ⟨gb236, 1, none⟩ = some (.string ((rd_T27 x13_1 x15_1).f1)) := (blk_cell BK236.out 1).trans rfl
              have hfz35_0 := blk_frozen BK236.out 0
              have hfz35_1 := blk_frozen BK236.out 1
              have p241 : 0 ≤ ((ji24) : Int) := of_decide_eq_true (by first | (with_reducible assumption) | assumption)
              have q241 : (ji24) < (x4_1.length : Int) := of_decide_eq_true (by first | (with_reducible assumption) | assumption)
              obtain ⟨ad241, e241, hx241_0, hx241_1⟩ := at_T27 (Kd.R_reads' HO_4.out).2.2 (ji24) p241 q241
              obtain rfl : ad239 = ad241 := (by injection e241)
              replace p241 := eq_true p241
              replace q241 := eq_true q241
              have p34 : 0 ≤ ((ji24) : Int) := of_decide_eq_true (by first | (with_reducible assumption) | assumption)
              have q34 : ((ji24) : Int) < ((x4_1.length : Int) : Int) := of_decide_eq_true (by first | (with_reducible assumption) | assumption)
              obtain ⟨go34, co34, eo34, gb34, gl34, cl34, HG34⟩ := Kd.R_form HO_4.out (by omega)
              (first | cases eo34 | (injection eo34 with ea_ en_ ec_; (first | subst ea_ | (injection ea_ with ea_; subst ea_)); subst ec_; clear en_))
              have GB34 := Aside0.mk gb34
              have GG34 := Aside0.mk HG34
              clear gb34 gl34 HG34
              (first | simp only [add_plain] at hx239_0 | skip)
              (first | simp only [add_plain] at hx239_1 | skip)
              (first | simp only [add_plain] at hx241_0 | skip)
              (first | simp only [add_plain] at hx241_1 | skip)
              obtain ⟨ce34, hcl34, hM34, hcc34, hfr34⟩ := Kd.R_elem HO_4.out z27 ((ji24) : Int) p34 q34
              obtain rfl := k27_openM hM34
              have hx34_0 : wc.cell? ⟨go34, ((ji24) : Int).toNat * 2, none⟩ = some (.string ((rd_T27 x4_1 (ji24)).f0)) := hcc34 0 _ rfl
              have hx34_1 : wc.cell? ⟨go34, ((ji24) : Int).toNat * 2 + 1, none⟩ = some (.string ((rd_T27 x4_1 (ji24)).f1)) := hcc34 1 _ rfl
              have hf34_0 : wc.frozen? ⟨go34, ((ji24) : Int).toNat * 2, none⟩ = false := hfr34 0
              have hf34_1 : wc.frozen? ⟨go34, ((ji24) : Int).toNat * 2 + 1, none⟩ = false := hfr34 1
              clear hcl34 hcc34 hfr34 hM34
              replace p34 := eq_true p34
              replace q34 := eq_true q34
              have HX36 := Aside0.mk (show Kd.R k27 27 wc w.heap.size (fun k_ => some k_ ≠ (.slice (some ad235) x13_1.length co8 : Value).ownBlock ∧ k_ ≠ gb236) (.slice (some ⟨go34, 0, none⟩) x4_1.length co16) x4_1 from (by (with_reducible repeat (first | apply Kd.R_alloc | apply Kd.R_drewN | apply Kd.R_drew)); exact HO_4.out))
              obtain ⟨ce36, hcl36, hM36, hcc36, hfr36⟩ := Kd.R_elem HX36.out z27 ((ji24) : Int) (of_decide_eq_true (by first | (with_reducible assumption) | assumption)) (by have h_ : ((ji24) : Int) < ((x4_1.length : Int) : Int) := of_decide_eq_true (by first | (with_reducible assumption) | assumption); first | exact h_ | (have e_ := (Kd.R_reads' HO_4.out).1; omega) | simpa using h_)
              obtain rfl := k27_openM hM36
              have HP36 := Kd.R_seg HX36.out ((ji24) : Int) (of_decide_eq_true (by first | (with_reducible assumption) | assumption)) (by have h_ : ((ji24) : Int) < ((x4_1.length : Int) : Int) := of_decide_eq_true (by first | (with_reducible assumption) | assumption); first | exact h_ | (have e_ := (Kd.R_reads' HO_4.out).1; omega) | simpa using h_) (seg := [.string ((rd_T27 x13_1 x15_1).f1)]) (j := 1) hcl36 hcc36 (show 2 ≤ 2 from by decide) (x' := (⟨(rd_T27 x4_1 (ji24)).f0, ((rd_T27 x13_1 x15_1).f1)⟩ : S27)) (k27_mkM _ _ _ (⟨(rd_T27 x4_1 (ji24)).f0, ((rd_T27 x13_1 x15_1).f1)⟩ : S27) ) (fun _ hk => hk)
              have hx36_1 := hcc36 1 _ rfl
              (try simp only [show (k27).sz = 2 from rfl, Nat.mul_one, Nat.add_zero] at hx36_1)
              have hf36_1 := hfr36 1
              (try simp only [show (k27).sz = 2 from rfl, Nat.mul_one, Nat.add_zero] at hf36_1)
              clear hcl36 hcc36 hfr36 hM36
              go_wp2_with (first | ((with_reducible refine gate_store (t := 9) (p := 72) rfl ?_); (try (rw [drewN_self wc]; generalize hq_ : World.drewN wc _ = wc; have n0_ := Aside0.mk (Kd.R_at hq_ HO_4.out); have n1_ := Aside0.mk (Kd.R_at hq_ HO_13.out); have n2_ := Aside0.mk (blk_at hq_ BK236.out); have n3_ := Aside0.mk (below_at hq_ HB.out); clear hq_ HO_4 HO_13 BK236 HB; have HO_4 := n0_; have HO_13 := n1_; have BK236 := n2_; have HB := n3_; clear n0_ n1_ n2_ n3_; (try (have HX36 := Aside0.mk (show Kd.R k27 27 wc w.heap.size (fun k_ => some k_ ≠ (.slice (some ad235) x13_1.length co8 : Value).ownBlock ∧ k_ ≠ gb236) (.slice (some ⟨go34, 0, none⟩) x4_1.length co16) x4_1 from (by (with_reducible repeat (first | apply Kd.R_alloc | apply Kd.R_drewN | apply Kd.R_drew)); exact HO_4.out)))); (try (obtain ⟨ce36, hcl36, hM36, hcc36, hfr36⟩ := Kd.R_elem HX36.out z27 ((ji24) : Int) (of_decide_eq_true (by first | (with_reducible assumption) | assumption)) (by have h_ : ((ji24) : Int) < ((x4_1.length : Int) : Int) := of_decide_eq_true (by first | (with_reducible assumption) | assumption); first | exact h_ | (have e_ := (Kd.R_reads' HO_4.out).1; omega) | simpa using h_))); (try (obtain rfl := k27_openM hM36)); (try (have HP36 := Kd.R_seg HX36.out ((ji24) : Int) (of_decide_eq_true (by first | (with_reducible assumption) | assumption)) (by have h_ : ((ji24) : Int) < ((x4_1.length : Int) : Int) := of_decide_eq_true (by first | (with_reducible assumption) | assumption); first | exact h_ | (have e_ := (Kd.R_reads' HO_4.out).1; omega) | simpa using h_) (seg := [.string ((rd_T27 x13_1 x15_1).f1)]) (j := 1) hcl36 hcc36 (show 2 ≤ 2 from by decide) (x' := (⟨(rd_T27 x4_1 (ji24)).f0, ((rd_T27 x13_1 x15_1).f1)⟩ : S27)) (k27_mkM _ _ _ (⟨(rd_T27 x4_1 (ji24)).f0, ((rd_T27 x13_1 x15_1).f1)⟩ : S27) ) (fun _ hk => hk))); (try (have hx36_1 := hcc36 1 _ rfl)); (try (try simp only [show (k27).sz = 2 from rfl, Nat.mul_one, Nat.add_zero] at hx36_1)); (try (have hf36_1 := hfr36 1)); (try (try simp only [show (k27).sz = 2 from rfl, Nat.mul_one, Nat.add_zero] at hf36_1)); (try (clear hcl36 hcc36 hfr36 hM36)))); refine store_event (t := 9) (p := 72) (v := ?vo_w37) (w1 := (wc.setCell ⟨go34, ((ji24) : Int).toNat * 2 + 1, none⟩ (.string ((rd_T27 x13_1 x15_1).f1)))) ?hg ?ho ?hn ?hr ?_; (case ho => rfl); (case hg => rfl); (case hn => rfl); (case hr => first | (go_simp; done) | (go_simp; rfl)); intro w37 hw; have hg : wc.grownBy w37 (some go34) := (by rw [hw]; exact HP36.2); have hp_ : Kd.R k27 27 w37 w.heap.size (fun k_ => some k_ ≠ (.slice (some ad235) x13_1.length co8 : Value).ownBlock ∧ k_ ≠ gb236) (.slice (some ⟨go34, 0, none⟩) x4_1.length co16) y242 := (by rw [hw, Ny242.out]; exact HP36.1); clear HP36; have n0_ := Aside0.mk (hp_); have n1_ := Aside0.mk (Kd.R_after (v := (.slice (some ⟨go34, 0, none⟩) x4_1.length co16)) (v1 := (.slice (some ⟨go34, 0, none⟩) x4_1.length co16)) (ok := (fun k_ => k_ ≠ gb236)) (by (with_reducible repeat (first | apply Kd.R_alloc | apply Kd.R_drewN | apply Kd.R_drew)); exact Kd.R_mono HO_13.out (fun _ hk => ⟨hk.2, hk.1⟩)) hg (.inl rfl)); have n2_ := Aside0.mk (blk_grown (g := gb236) (o := .cells #[.string ((rd_T27 x13_1 x15_1).f0), .string ((rd_T27 x13_1 x15_1).f1)] 27 (0, 0)) (by (with_reducible repeat (first | refine blk_drewN ?_ _ | refine blk_drew ?_ | refine blk_alloc ?_ _)); exact BK236.out) hg (Kd.R_away HO_4.out (fun _ hk => hk.2))); have n3_ := Aside0.mk ((by rw [hw]; exact below_set (HB.out) GB34.out : Below w.heap.size w w37)); clear HO_4; clear HO_13; clear BK236; clear HB; have HO_4 := n0_; have HO_13 := n1_; have BK236 := n2_; have HB := n3_; clear n0_ n1_ n2_ n3_; clear hg hw hp_))
              repeat (go_quiet (first | ((with_reducible refine gate_store (t := 9) (p := 72) rfl ?_); (try (rw [drewN_self wc]; generalize hq_ : World.drewN wc _ = wc; have n0_ := Aside0.mk (Kd.R_at hq_ HO_4.out); have n1_ := Aside0.mk (Kd.R_at hq_ HO_13.out); have n2_ := Aside0.mk (blk_at hq_ BK236.out); have n3_ := Aside0.mk (below_at hq_ HB.out); clear hq_ HO_4 HO_13 BK236 HB; have HO_4 := n0_; have HO_13 := n1_; have BK236 := n2_; have HB := n3_; clear n0_ n1_ n2_ n3_; (try (have HX36 := Aside0.mk (show Kd.R k27 27 wc w.heap.size (fun k_ => some k_ ≠ (.slice (some ad235) x13_1.length co8 : Value).ownBlock ∧ k_ ≠ gb236) (.slice (some ⟨go34, 0, none⟩) x4_1.length co16) x4_1 from (by (with_reducible repeat (first | apply Kd.R_alloc | apply Kd.R_drewN | apply Kd.R_drew)); exact HO_4.out)))); (try (obtain ⟨ce36, hcl36, hM36, hcc36, hfr36⟩ := Kd.R_elem HX36.out z27 ((ji24) : Int) (of_decide_eq_true (by first | (with_reducible assumption) | assumption)) (by have h_ : ((ji24) : Int) < ((x4_1.length : Int) : Int) := of_decide_eq_true (by first | (with_reducible assumption) | assumption); first | exact h_ | (have e_ := (Kd.R_reads' HO_4.out).1; omega) | simpa using h_))); (try (obtain rfl := k27_openM hM36)); (try (have HP36 := Kd.R_seg HX36.out ((ji24) : Int) (of_decide_eq_true (by first | (with_reducible assumption) | assumption)) (by have h_ : ((ji24) : Int) < ((x4_1.length : Int) : Int) := of_decide_eq_true (by first | (with_reducible assumption) | assumption); first | exact h_ | (have e_ := (Kd.R_reads' HO_4.out).1; omega) | simpa using h_) (seg := [.string ((rd_T27 x13_1 x15_1).f1)]) (j := 1) hcl36 hcc36 (show 2 ≤ 2 from by decide) (x' := (⟨(rd_T27 x4_1 (ji24)).f0, ((rd_T27 x13_1 x15_1).f1)⟩ : S27)) (k27_mkM _ _ _ (⟨(rd_T27 x4_1 (ji24)).f0, ((rd_T27 x13_1 x15_1).f1)⟩ : S27) ) (fun _ hk => hk))); (try (have hx36_1 := hcc36 1 _ rfl)); (try (try simp only [show (k27).sz = 2 from rfl, Nat.mul_one, Nat.add_zero] at hx36_1)); (try (have hf36_1 := hfr36 1)); (try (try simp only [show (k27).sz = 2 from rfl, Nat.mul_one, Nat.add_zero] at hf36_1)); (try (clear hcl36 hcc36 hfr36 hM36)))); refine store_event (t := 9) (p := 72) (v := ?vo_w37) (w1 := (wc.setCell ⟨go34, ((ji24) : Int).toNat * 2 + 1, none⟩ (.string ((rd_T27 x13_1 x15_1).f1)))) ?hg ?ho ?hn ?hr ?_; (case ho => rfl); (case hg => rfl); (case hn => rfl); (case hr => first | (go_simp; done) | (go_simp; rfl)); intro w37 hw; have hg : wc.grownBy w37 (some go34) := (by rw [hw]; exact HP36.2); have hp_ : Kd.R k27 27 w37 w.heap.size (fun k_ => some k_ ≠ (.slice (some ad235) x13_1.length co8 : Value).ownBlock ∧ k_ ≠ gb236) (.slice (some ⟨go34, 0, none⟩) x4_1.length co16) y242 := (by rw [hw, Ny242.out]; exact HP36.1); clear HP36; have n0_ := Aside0.mk (hp_); have n1_ := Aside0.mk (Kd.R_after (v := (.slice (some ⟨go34, 0, none⟩) x4_1.length co16)) (v1 := (.slice (some ⟨go34, 0, none⟩) x4_1.length co16)) (ok := (fun k_ => k_ ≠ gb236)) (by (with_reducible repeat (first | apply Kd.R_alloc | apply Kd.R_drewN | apply Kd.R_drew)); exact Kd.R_mono HO_13.out (fun _ hk => ⟨hk.2, hk.1⟩)) hg (.inl rfl)); have n2_ := Aside0.mk (blk_grown (g := gb236) (o := .cells #[.string ((rd_T27 x13_1 x15_1).f0), .string ((rd_T27 x13_1 x15_1).f1)] 27 (0, 0)) (by (with_reducible repeat (first | refine blk_drewN ?_ _ | refine blk_drew ?_ | refine blk_alloc ?_ _)); exact BK236.out) hg (Kd.R_away HO_4.out (fun _ hk => hk.2))); have n3_ := Aside0.mk ((by rw [hw]; exact below_set (HB.out) GB34.out : Below w.heap.size w w37)); clear HO_4; clear HO_13; clear BK236; clear HB; have HO_4 := n0_; have HO_13 := n1_; have BK236 := n2_; have HB := n3_; clear n0_ n1_ n2_ n3_; clear hg hw hp_)); try go_wp2_with (first | ((with_reducible refine gate_store (t := 9) (p := 72) rfl ?_); (try (rw [drewN_self wc]; generalize hq_ : World.drewN wc _ = wc; have n0_ := Aside0.mk (Kd.R_at hq_ HO_4.out); have n1_ := Aside0.mk (Kd.R_at hq_ HO_13.out); have n2_ := Aside0.mk (blk_at hq_ BK236.out); have n3_ := Aside0.mk (below_at hq_ HB.out); clear hq_ HO_4 HO_13 BK236 HB; have HO_4 := n0_; have HO_13 := n1_; have BK236 := n2_; have HB := n3_; clear n0_ n1_ n2_ n3_; (try (have HX36 := Aside0.mk (show Kd.R k27 27 wc w.heap.size (fun k_ => some k_ ≠ (.slice (some ad235) x13_1.length co8 : Value).ownBlock ∧ k_ ≠ gb236) (.slice (some ⟨go34, 0, none⟩) x4_1.length co16) x4_1 from (by (with_reducible repeat (first | apply Kd.R_alloc | apply Kd.R_drewN | apply Kd.R_drew)); exact HO_4.out)))); (try (obtain ⟨ce36, hcl36, hM36, hcc36, hfr36⟩ := Kd.R_elem HX36.out z27 ((ji24) : Int) (of_decide_eq_true (by first | (with_reducible assumption) | assumption)) (by have h_ : ((ji24) : Int) < ((x4_1.length : Int) : Int) := of_decide_eq_true (by first | (with_reducible assumption) | assumption); first | exact h_ | (have e_ := (Kd.R_reads' HO_4.out).1; omega) | simpa using h_))); (try (obtain rfl := k27_openM hM36)); (try (have HP36 := Kd.R_seg HX36.out ((ji24) : Int) (of_decide_eq_true (by first | (with_reducible assumption) | assumption)) (by have h_ : ((ji24) : Int) < ((x4_1.length : Int) : Int) := of_decide_eq_true (by first | (with_reducible assumption) | assumption); first | exact h_ | (have e_ := (Kd.R_reads' HO_4.out).1; omega) | simpa using h_) (seg := [.string ((rd_T27 x13_1 x15_1).f1)]) (j := 1) hcl36 hcc36 (show 2 ≤ 2 from by decide) (x' := (⟨(rd_T27 x4_1 (ji24)).f0, ((rd_T27 x13_1 x15_1).f1)⟩ : S27)) (k27_mkM _ _ _ (⟨(rd_T27 x4_1 (ji24)).f0, ((rd_T27 x13_1 x15_1).f1)⟩ : S27) ) (fun _ hk => hk))); (try (have hx36_1 := hcc36 1 _ rfl)); (try (try simp only [show (k27).sz = 2 from rfl, Nat.mul_one, Nat.add_zero] at hx36_1)); (try (have hf36_1 := hfr36 1)); (try (try simp only [show (k27).sz = 2 from rfl, Nat.mul_one, Nat.add_zero] at hf36_1)); (try (clear hcl36 hcc36 hfr36 hM36)))); refine store_event (t := 9) (p := 72) (v := ?vo_w37) (w1 := (wc.setCell ⟨go34, ((ji24) : Int).toNat * 2 + 1, none⟩ (.string ((rd_T27 x13_1 x15_1).f1)))) ?hg ?ho ?hn ?hr ?_; (case ho => rfl); (case hg => rfl); (case hn => rfl); (case hr => first | (go_simp; done) | (go_simp; rfl)); intro w37 hw; have hg : wc.grownBy w37 (some go34) := (by rw [hw]; exact HP36.2); have hp_ : Kd.R k27 27 w37 w.heap.size (fun k_ => some k_ ≠ (.slice (some ad235) x13_1.length co8 : Value).ownBlock ∧ k_ ≠ gb236) (.slice (some ⟨go34, 0, none⟩) x4_1.length co16) y242 := (by rw [hw, Ny242.out]; exact HP36.1); clear HP36; have n0_ := Aside0.mk (hp_); have n1_ := Aside0.mk (Kd.R_after (v := (.slice (some ⟨go34, 0, none⟩) x4_1.length co16)) (v1 := (.slice (some ⟨go34, 0, none⟩) x4_1.length co16)) (ok := (fun k_ => k_ ≠ gb236)) (by (with_reducible repeat (first | apply Kd.R_alloc | apply Kd.R_drewN | apply Kd.R_drew)); exact Kd.R_mono HO_13.out (fun _ hk => ⟨hk.2, hk.1⟩)) hg (.inl rfl)); have n2_ := Aside0.mk (blk_grown (g := gb236) (o := .cells #[.string ((rd_T27 x13_1 x15_1).f0), .string ((rd_T27 x13_1 x15_1).f1)] 27 (0, 0)) (by (with_reducible repeat (first | refine blk_drewN ?_ _ | refine blk_drew ?_ | refine blk_alloc ?_ _)); exact BK236.out) hg (Kd.R_away HO_4.out (fun _ hk => hk.2))); have n3_ := Aside0.mk ((by rw [hw]; exact below_set (HB.out) GB34.out : Below w.heap.size w w37)); clear HO_4; clear HO_13; clear BK236; clear HB; have HO_4 := n0_; have HO_13 := n1_; have BK236 := n2_; have HB := n3_; clear n0_ n1_ n2_ n3_; clear hg hw hp_)))
              (try simp only [← hl13_1])
              go_roundg kj12
              case measure => have := HK1.out; have := HJ12.out; omega
              case rel => exact ⟨(y242), (x13_1), (wrap64 (x15_1 + 1)), (by first | rfl | (simp; done) | (simp [*]; done)), H', ⟨by have := HK1.out; have := HJ12.out; omega⟩, ⟨by (try simp only [hl13_1]); (with_reducible repeat (first | apply Kd.R_alloc | apply Kd.R_drewN | apply Kd.R_drew)); exact Kd.R_mono HO_4.out (fun _ hk => hk.1)⟩, ⟨by (try simp only [hl13_1]); (with_reducible repeat (first | apply Kd.R_alloc | apply Kd.R_drewN | apply Kd.R_drew)); exact Kd.R_mono HO_13.out (fun _ hk => hk.2)⟩, ⟨by repeat (first | (with_reducible first | exact HB.out | apply below_alloc | apply pw_below_drewN | apply below_drew1 | refine below_set ?_ GE236.out) | exact HB.out)⟩⟩
             ·
              rw [if_neg c33] at H
              have c33b0 : (Op.bytesLess (((rd_T27 x4_1 (ji24)).f1).toList) ((rd_T27 x13_1 x15_1).f1).toList) = false := by simpa using c33
              clear c33
              have H' := Aside0.mk H
              clear H
              have p239 : 0 ≤ ((ji24) : Int) := of_decide_eq_true (by first | (with_reducible assumption) | assumption)
              have q239 : (ji24) < (x4_1.length : Int) := of_decide_eq_true (by first | (with_reducible assumption) | assumption)
              obtain ⟨ad239, e239, hx239_0, hx239_1⟩ := at_T27 (Kd.R_reads' HO_4.out).2.2 (ji24) p239 q239
              cases e239
              replace p239 := eq_true p239
              replace q239 := eq_true q239
              have hcz38_0 : wc.cell? ⟨gb236, 0, none⟩ = some (.string ((rd_T27 x13_1 x15_1).f0)) := (blk_cell BK236.out 0).trans rfl
              have hcz38_1 : wc.cell? ⟨gb236, 1, none⟩ = some (.string ((rd_T27 x13_1 x15_1).f1)) := (blk_cell BK236.out 1).trans rfl
              have hfz38_0 := blk_frozen BK236.out 0
              have hfz38_1 := blk_frozen BK236.out 1
              have p241 : 0 ≤ ((ji24) : Int) := of_decide_eq_true (by first | (with_reducible assumption) | assumption)
              have q241 : (ji24) < (x4_1.length : Int) := of_decide_eq_true (by first | (with_reducible assumption) | assumption)
              obtain ⟨ad241, e241, hx241_0, hx241_1⟩ := at_T27 (Kd.R_reads' HO_4.out).2.2 (ji24) p241 q241
              obtain rfl : ad239 = ad241 := (by injection e241)
              replace p241 := eq_true p241
              replace q241 := eq_true q241
              go_wp2
              repeat (go_quiet (fail); try go_wp2)
              (try simp only [← hl13_1])
              go_roundg kj12
              case measure => have := HK1.out; have := HJ12.out; omega
              case rel => exact ⟨(x4_1), (x13_1), (wrap64 (x15_1 + 1)), (by first | rfl | (simp; done) | (simp [*]; done)), H', ⟨by have := HK1.out; have := HJ12.out; omega⟩, ⟨by (try simp only [hl13_1]); (with_reducible repeat (first | apply Kd.R_alloc | apply Kd.R_drewN | apply Kd.R_drew)); exact Kd.R_mono HO_4.out (fun _ hk => hk.1)⟩, ⟨by (try simp only [hl13_1]); (with_reducible repeat (first | apply Kd.R_alloc | apply Kd.R_drewN | apply Kd.R_drew)); exact Kd.R_mono HO_13.out (fun _ hk => hk.1)⟩, ⟨by repeat (first | (with_reducible first | exact HB.out | apply below_alloc | apply pw_below_drewN | apply below_drew1 | refine below_set ?_ GE236.out) | exact HB.out)⟩⟩
          ·
           rw [if_neg c26] at H
           exact absurd H (by simp)
         ·
          rw [if_neg c25] at H
          exact absurd H (by simp)
        ·
         replace c23 := Bool.eq_false_iff.mpr c23
         subst c23
         have H1 : (if x4_1.length < 4398046511104 then (keys_Union.l0 kj12 (x4_1 ++ [(⟨((rd_T27 x13_1 x15_1).f0), ((rd_T27 x13_1 x15_1).f1)⟩ : S27)]) x13_1 (t231.length : Int) (wrap64 (x15_1 + 1))) else (none)) = some r := by rw [if_neg (show ¬ (false = true) by decide)] at H; first | done | exact H
         clear H
         have H := H1
         clear H1
         by_cases c39 : x4_1.length < 4398046511104
         ·
          rw [if_pos c39] at H
          have LMc39 := Aside0.mk c39
          clear c39
          obtain ⟨y243, hy243⟩ : ∃ y_ : List (S27), y_ = (x4_1 ++ [(⟨((rd_T27 x13_1 x15_1).f0), ((rd_T27 x13_1 x15_1).f1)⟩ : S27)]) := ⟨_, rfl⟩
          replace H : (keys_Union.l0 kj12 y243 x13_1 (t231.length : Int) (wrap64 (x15_1 + 1))) = some r := by first | (rw [hy243]; with_reducible exact H) | (have H2_ := (Option.bind_some _ _).symm.trans H; rw [hy243]; with_reducible exact H2_) | (have H2_ := (Option.bind_some _ _).symm.trans H; with_reducible exact H2_) | with_reducible exact H | (rw [hy243]; exact H) | exact H
          have Ny243 := Aside0.mk hy243
          clear hy243
          have H' := Aside0.mk H
          clear H
          have hcz40_0 : wc.cell? ⟨gb236, 0, none⟩ = some (.string ((rd_T27 x13_1 x15_1).f0)) := (blk_cell BK236.out 0).trans rfl
          have hcz40_1 : wc.cell? ⟨gb236, 1, none⟩ = some (.string ((rd_T27 x13_1 x15_1).f1)) := (blk_cell BK236.out 1).trans rfl
          have hfz40_0 := blk_frozen BK236.out 0
          have hfz40_1 := blk_frozen BK236.out 1
          go_wp2_with (first | ((with_reducible refine gate_builtin (b := .append) (xs := #[.tmp 73, .tmp 75]) rfl ?_); at_builtin; refine Kd.R_append k27 (w0 := w) w.heap.size rfl (.tmp 73) (.tmp 75) 36 27 (.agg #[(.string ⟨#[]⟩), (.string ⟨#[]⟩)]) 32 rfl Try.underlying36 info27 rfl (by decide) (by omega) (.slice Ao16 x4_1.length co16) x4_1 (⟨((rd_T27 x13_1 x15_1).f0), ((rd_T27 x13_1 x15_1).f1)⟩ : S27) [.string ((rd_T27 x13_1 x15_1).f0), .string ((rd_T27 x13_1 x15_1).f1)] (fun k_ => some k_ ≠ (.slice (some ad235) x13_1.length co8 : Value).ownBlock ∧ k_ ≠ gb236) (fun _ => False) rfl rfl ?aP (fun _ hk => hk.elim) ?aF ?aO ?aB ?aS ?aL ?_; (case aP => exact k27_mkM _ _ _ (⟨((rd_T27 x13_1 x15_1).f0), ((rd_T27 x13_1 x15_1).f1)⟩ : S27)); (case aB => exact (by repeat (first | (with_reducible first | exact HB.out | apply below_alloc | apply pw_below_drewN | apply below_drew1 | refine below_set ?_ GE236.out) | exact HB.out))); (case aF => exact (fun k_ hk => ⟨Kd.fresh' (Kd.R_lt (by (with_reducible repeat (first | apply Kd.R_alloc | apply Kd.R_drewN | apply Kd.R_drew)); exact HO_13.out)) k_ hk, Kd.freshB (g := gb236) (o := .cells #[.string ((rd_T27 x13_1 x15_1).f0), .string ((rd_T27 x13_1 x15_1).f1)] 27 (0, 0)) (by (with_reducible repeat (first | refine blk_drewN ?_ _ | refine blk_drew ?_ | refine blk_alloc ?_ _)); exact BK236.out) k_ hk⟩)); (case aO => exact (by (with_reducible repeat (first | apply Kd.R_alloc | apply Kd.R_drewN | apply Kd.R_drew)); exact HO_4.out)); (case aS => exact (below_size (by repeat (first | (with_reducible first | exact HB.out | apply below_alloc | apply pw_below_drewN | apply below_drew1 | refine below_set ?_ GE236.out) | exact HB.out)))); (case aL => have := LMc39.out; omega); intro v244 w41 ho hb hg hat; rw [← Ny243.out] at ho; have n0_ := Aside0.mk (Kd.R_after (ok := (fun k_ => k_ ≠ gb236)) (by (with_reducible repeat (first | apply Kd.R_alloc | apply Kd.R_drewN | apply Kd.R_drew)); exact Kd.R_mono HO_13.out (fun _ hk => ⟨hk.2, hk.1⟩)) hg hat); have n1_ := Aside0.mk (blk_grown (g := gb236) (o := .cells #[.string ((rd_T27 x13_1 x15_1).f0), .string ((rd_T27 x13_1 x15_1).f1)] 27 (0, 0)) (by (with_reducible repeat (first | refine blk_drewN ?_ _ | refine blk_drew ?_ | refine blk_alloc ?_ _)); exact BK236.out) hg (Kd.R_away HO_4.out (fun _ hk => hk.2))); have n2_ := Aside0.mk (hb); have n3_ := Aside0.mk (ho); clear HO_13; clear BK236; clear HB; clear HO_4; have HO_13 := n0_; have BK236 := n1_; have HB := n2_; have HO245 := n3_; clear n0_ n1_ n2_ n3_; clear ho hb hg hat))
          repeat (go_quiet (first | ((with_reducible refine gate_builtin (b := .append) (xs := #[.tmp 73, .tmp 75]) rfl ?_); at_builtin; refine Kd.R_append k27 (w0 := w) w.heap.size rfl (.tmp 73) (.tmp 75) 36 27 (.agg #[(.string ⟨#[]⟩), (.string ⟨#[]⟩)]) 32 rfl Try.underlying36 info27 rfl (by decide) (by omega) (.slice Ao16 x4_1.length co16) x4_1 (⟨((rd_T27 x13_1 x15_1).f0), ((rd_T27 x13_1 x15_1).f1)⟩ : S27) [.string ((rd_T27 x13_1 x15_1).f0), .string ((rd_T27 x13_1 x15_1).f1)] (fun k_ => some k_ ≠ (.slice (some ad235) x13_1.length co8 : Value).ownBlock ∧ k_ ≠ gb236) (fun _ => False) rfl rfl ?aP (fun _ hk => hk.elim) ?aF ?aO ?aB ?aS ?aL ?_; (case aP => exact k27_mkM _ _ _ (⟨((rd_T27 x13_1 x15_1).f0), ((rd_T27 x13_1 x15_1).f1)⟩ : S27)); (case aB => exact (by repeat (first | (with_reducible first | exact HB.out | apply below_alloc | apply pw_below_drewN | apply below_drew1 | refine below_set ?_ GE236.out) | exact HB.out))); (case aF => exact (fun k_ hk => ⟨Kd.fresh' (Kd.R_lt (by (with_reducible repeat (first | apply Kd.R_alloc | apply Kd.R_drewN | apply Kd.R_drew)); exact HO_13.out)) k_ hk, Kd.freshB (g := gb236) (o := .cells #[.string ((rd_T27 x13_1 x15_1).f0), .string ((rd_T27 x13_1 x15_1).f1)] 27 (0, 0)) (by (with_reducible repeat (first | refine blk_drewN ?_ _ | refine blk_drew ?_ | refine blk_alloc ?_ _)); exact BK236.out) k_ hk⟩)); (case aO => exact (by (with_reducible repeat (first | apply Kd.R_alloc | apply Kd.R_drewN | apply Kd.R_drew)); exact HO_4.out)); (case aS => exact (below_size (by repeat (first | (with_reducible first | exact HB.out | apply below_alloc | apply pw_below_drewN | apply below_drew1 | refine below_set ?_ GE236.out) | exact HB.out)))); (case aL => have := LMc39.out; omega); intro v244 w41 ho hb hg hat; rw [← Ny243.out] at ho; have n0_ := Aside0.mk (Kd.R_after (ok := (fun k_ => k_ ≠ gb236)) (by (with_reducible repeat (first | apply Kd.R_alloc | apply Kd.R_drewN | apply Kd.R_drew)); exact Kd.R_mono HO_13.out (fun _ hk => ⟨hk.2, hk.1⟩)) hg hat); have n1_ := Aside0.mk (blk_grown (g := gb236) (o := .cells #[.string ((rd_T27 x13_1 x15_1).f0), .string ((rd_T27 x13_1 x15_1).f1)] 27 (0, 0)) (by (with_reducible repeat (first | refine blk_drewN ?_ _ | refine blk_drew ?_ | refine blk_alloc ?_ _)); exact BK236.out) hg (Kd.R_away HO_4.out (fun _ hk => hk.2))); have n2_ := Aside0.mk (hb); have n3_ := Aside0.mk (ho); clear HO_13; clear BK236; clear HB; clear HO_4; have HO_13 := n0_; have BK236 := n1_; have HB := n2_; have HO245 := n3_; clear n0_ n1_ n2_ n3_; clear ho hb hg hat)); try go_wp2_with (first | ((with_reducible refine gate_builtin (b := .append) (xs := #[.tmp 73, .tmp 75]) rfl ?_); at_builtin; refine Kd.R_append k27 (w0 := w) w.heap.size rfl (.tmp 73) (.tmp 75) 36 27 (.agg #[(.string ⟨#[]⟩), (.string ⟨#[]⟩)]) 32 rfl Try.underlying36 info27 rfl (by decide) (by omega) (.slice Ao16 x4_1.length co16) x4_1 (⟨((rd_T27 x13_1 x15_1).f0), ((rd_T27 x13_1 x15_1).f1)⟩ : S27) [.string ((rd_T27 x13_1 x15_1).f0), .string ((rd_T27 x13_1 x15_1).f1)] (fun k_ => some k_ ≠ (.slice (some ad235) x13_1.length co8 : Value).ownBlock ∧ k_ ≠ gb236) (fun _ => False) rfl rfl ?aP (fun _ hk => hk.elim) ?aF ?aO ?aB ?aS ?aL ?_; (case aP => exact k27_mkM _ _ _ (⟨((rd_T27 x13_1 x15_1).f0), ((rd_T27 x13_1 x15_1).f1)⟩ : S27)); (case aB => exact (by repeat (first | (with_reducible first | exact HB.out | apply below_alloc | apply pw_below_drewN | apply below_drew1 | refine below_set ?_ GE236.out) | exact HB.out))); (case aF => exact (fun k_ hk => ⟨Kd.fresh' (Kd.R_lt (by (with_reducible repeat (first | apply Kd.R_alloc | apply Kd.R_drewN | apply Kd.R_drew)); exact HO_13.out)) k_ hk, Kd.freshB (g := gb236) (o := .cells #[.string ((rd_T27 x13_1 x15_1).f0), .string ((rd_T27 x13_1 x15_1).f1)] 27 (0, 0)) (by (with_reducible repeat (first | refine blk_drewN ?_ _ | refine blk_drew ?_ | refine blk_alloc ?_ _)); exact BK236.out) k_ hk⟩)); (case aO => exact (by (with_reducible repeat (first | apply Kd.R_alloc | apply Kd.R_drewN | apply Kd.R_drew)); exact HO_4.out)); (case aS => exact (below_size (by repeat (first | (with_reducible first | exact HB.out | apply below_alloc | apply pw_below_drewN | apply below_drew1 | refine below_set ?_ GE236.out) | exact HB.out)))); (case aL => have := LMc39.out; omega); intro v244 w41 ho hb hg hat; rw [← Ny243.out] at ho; have n0_ := Aside0.mk (Kd.R_after (ok := (fun k_ => k_ ≠ gb236)) (by (with_reducible repeat (first | apply Kd.R_alloc | apply Kd.R_drewN | apply Kd.R_drew)); exact Kd.R_mono HO_13.out (fun _ hk => ⟨hk.2, hk.1⟩)) hg hat); have n1_ := Aside0.mk (blk_grown (g := gb236) (o := .cells #[.string ((rd_T27 x13_1 x15_1).f0), .string ((rd_T27 x13_1 x15_1).f1)] 27 (0, 0)) (by (with_reducible repeat (first | refine blk_drewN ?_ _ | refine blk_drew ?_ | refine blk_alloc ?_ _)); exact BK236.out) hg (Kd.R_away HO_4.out (fun _ hk => hk.2))); have n2_ := Aside0.mk (hb); have n3_ := Aside0.mk (ho); clear HO_13; clear BK236; clear HB; clear HO_4; have HO_13 := n0_; have BK236 := n1_; have HB := n2_; have HO245 := n3_; clear n0_ n1_ n2_ n3_; clear ho hb hg hat)))
          (try simp only [← hl13_1])
          go_roundg kj12
          case measure => have := HK1.out; have := HJ12.out; omega
          case rel => exact ⟨(y243), (x13_1), (wrap64 (x15_1 + 1)), (by first | rfl | (simp; done) | (simp [*]; done)), H', ⟨by have := HK1.out; have := HJ12.out; omega⟩, ⟨by (try simp only [hl13_1]); (with_reducible repeat (first | apply Kd.R_alloc | apply Kd.R_drewN | apply Kd.R_drew)); exact Kd.R_mono HO245.out (fun _ hk => hk.1)⟩, ⟨by (try simp only [hl13_1]); (with_reducible repeat (first | apply Kd.R_alloc | apply Kd.R_drewN | apply Kd.R_drew)); exact Kd.R_mono HO_13.out (fun _ hk => hk.2)⟩, ⟨by repeat (first | (with_reducible first | exact HB.out | apply below_alloc | apply pw_below_drewN | apply below_drew1 | refine below_set ?_ GE236.out) | exact HB.out)⟩⟩
         ·
          rw [if_neg c39] at H
          exact absurd H (by simp)
     ·
      rw [if_neg c12] at H
      exact absurd H (by simp)
    ·
     rw [if_neg c11] at H
     exact absurd H (by simp)
   ·
    rw [if_neg c10] at H
    have c10b0 : decide (x15_1 < (t231.length : Int)) = false := decide_eq_false c10
    have c10b9 := c10b0
    (try rw [hl13_1] at c10b9)
    clear c10
    obtain rfl := Option.some.inj H
    go_wp2
    repeat (go_quiet (fail); try go_wp2)
    go_ret
    exact ⟨_, by first | rfl | (simp [errW_none, errW_some] <;> rfl) | (simp [*, errW_none, errW_some] <;> rfl), by (with_reducible repeat (first | apply Kd.R_alloc | apply Kd.R_drewN | apply Kd.R_drew)); exact Kd.R_mono HO_4.out (fun _ hk => trivial), by repeat (first | (with_reducible first | exact HB.out | apply below_alloc | apply pw_below_drewN | apply below_drew1) | exact HB.out)⟩

end Go.Proofs.Ytmgbmnjjkcljhaa.B

-- Written by a program of this session (wip/print2) out of Lean's print of the translation. Not trusted: Lean checks it.
import Derived.Test.YtphdinelioendaaBx0
import Derived.Test.YtphdinelioendaaBx1
import Derived.Test.YtphdinelioendaaBx2
import Derived.Test.YtphdinelioendaaBx4
import Derived.Test.YtphdinelioendaaBx5
namespace Go.Proofs.Ytphdinelioendaa.B
open Go.RowKit Go.Proofs.YtphdinelioendaaW.PrintWords Go.Proofs.YtphdinelioendaaW.PrintLast Go.Proofs.YtphdinelioendaaW.PrintMore Go.Proofs.YtphdinelioendaaW.Mine
attribute [local go_sem] max2_int min2_int max_two min_two max_three min_three max_four min_four str_gtr str_leq str_geq str_max str_min   -- for this text's walks alone
set_option linter.unusedVariables false
set_option linter.unusedSimpArgs false

/-! ### cressetlaw01_CodecInts: function 4 -/
def cressetlaw01_CodecInts.f (k : Nat) (a0 : Int) (l1 : List Int) : Option (Bool) := (cressetref01_Int.f k a0).bind fun t169 => ((codec_Int.f k l1).bind fun bt172 => ((cressetref01_ParseInt.f k l1).bind fun bt175 => ((cressetlaw01_live.f k).bind fun t178 => (if t178 = true then ((codec_PutInt.f k l1 a0).bind fun t179 => ((bytes_Clone.f l1).bind fun t182 => (if t182.length + t169.length < 140737488355328 then ((bytes_Equal.f t179 (t182 ++ t169)).bind fun t188 => (if t188 = true then ((codec_Width.f k a0).bind fun t189 => (if t189 = (t169.length : Int) then (if bt172.1 = bt175.1 then (if bt172.2.1 = bt175.2.1 then (some (bt172.2.2 == bt175.2.2)) else (some false)) else (some false)) else (some false))) else (some false))) else (none)))) else (some false)))))
theorem cressetlaw01_CodecInts.mono : ∀ a0 a1 k, LeO (cressetlaw01_CodecInts.f k a0 a1) (cressetlaw01_CodecInts.f (k + 1) a0 a1) := by
  intro a0 a1 k
  unfold cressetlaw01_CodecInts.f
  repeat' first
      | (with_reducible exact codec_Int.mono _ _)
      | (with_reducible exact codec_PutInt.mono _ _ _)
      | (with_reducible exact codec_Width.mono _ _)
      | (with_reducible exact cressetlaw01_live.mono _)
      | (with_reducible exact cressetref01_Int.mono _ _)
      | (with_reducible exact cressetref01_ParseInt.mono _ _)
      | (with_reducible exact LeO.refl _)
      | (with_reducible exact LeO.none _)
      | (with_reducible refine LeO.ite ?_ ?_)
      | (with_reducible refine LeO.bind ?_ (fun _ => ?_))
      | exact codec_Int.mono _ _
      | exact codec_PutInt.mono _ _ _
      | exact codec_Width.mono _ _
      | exact cressetlaw01_live.mono _
      | exact cressetref01_Int.mono _ _
      | exact cressetref01_ParseInt.mono _ _
      | exact LeO.none _
      | refine LeO.ite ?_ ?_
      | refine LeO.bind ?_ (fun _ => ?_)
set_option maxHeartbeats 8000000 in
set_option maxRecDepth 100000 in
theorem cressetlaw01_CodecInts.calls (k : Nat) (a0 : Int) (A1 : Option Addr) (c1 : Nat) (l1 : List Int) (w : World) (hr1 : Kd.C (Kd.int .u8) w A1 l1.length l1) (hc1 : l1.length ≤ c1) (h : cressetlaw01_CodecInts.f k a0 l1 = some true) :
    Calls Try.prog 4 #[.int .i64 a0, .slice A1 l1.length c1] w fun e w' => e = .returned (.bool true) ∧ Below w.heap.size w w' := by
  have HR1 := Aside0.mk hr1
  have HC1 := Aside0.mk hc1
  clear hr1 hc1
  have HB := Aside0.mk (Below.refl w.heap.size w)
  have H : ((cressetref01_Int.f k a0).bind fun t169 => ((codec_Int.f k l1).bind fun bt172 => ((cressetref01_ParseInt.f k l1).bind fun bt175 => ((cressetlaw01_live.f k).bind fun t178 => (if t178 = true then ((codec_PutInt.f k l1 a0).bind fun t179 => ((bytes_Clone.f l1).bind fun t182 => (if t182.length + t169.length < 140737488355328 then ((bytes_Equal.f t179 (t182 ++ t169)).bind fun t188 => (if t188 = true then ((codec_Width.f k a0).bind fun t189 => (if t189 = (t169.length : Int) then (if bt172.1 = bt175.1 then (if bt172.2.1 = bt175.2.1 then (some (bt172.2.2 == bt175.2.2)) else (some false)) else (some false)) else (some false))) else (some false))) else (none)))) else (some false)))))) = some true := h
  clear h
  replace H := Option.bind_eq_some_iff.mp H
  obtain ⟨t169, A30, H⟩ := H
  replace H : ((codec_Int.f k l1).bind fun bt172 => ((cressetref01_ParseInt.f k l1).bind fun bt175 => ((cressetlaw01_live.f k).bind fun t178 => (if t178 = true then ((codec_PutInt.f k l1 a0).bind fun t179 => ((bytes_Clone.f l1).bind fun t182 => (if t182.length + t169.length < 140737488355328 then ((bytes_Equal.f t179 (t182 ++ t169)).bind fun t188 => (if t188 = true then ((codec_Width.f k a0).bind fun t189 => (if t189 = (t169.length : Int) then (if bt172.1 = bt175.1 then (if bt172.2.1 = bt175.2.1 then (some (bt172.2.2 == bt175.2.2)) else (some false)) else (some false)) else (some false))) else (some false))) else (none)))) else (some false))))) = some true := H
  have A3 := Aside0.mk A30
  clear A30
  replace H := Option.bind_eq_some_iff.mp H
  obtain ⟨⟨t172, t173, t174⟩, A40, H⟩ := H
  replace H : ((cressetref01_ParseInt.f k l1).bind fun bt175 => ((cressetlaw01_live.f k).bind fun t178 => (if t178 = true then ((codec_PutInt.f k l1 a0).bind fun t179 => ((bytes_Clone.f l1).bind fun t182 => (if t182.length + t169.length < 140737488355328 then ((bytes_Equal.f t179 (t182 ++ t169)).bind fun t188 => (if t188 = true then ((codec_Width.f k a0).bind fun t189 => (if t189 = (t169.length : Int) then (if t172 = bt175.1 then (if t173 = bt175.2.1 then (some (t174 == bt175.2.2)) else (some false)) else (some false)) else (some false))) else (some false))) else (none)))) else (some false)))) = some true := H
  have A4 := Aside0.mk A40
  clear A40
  replace H := Option.bind_eq_some_iff.mp H
  obtain ⟨⟨t175, t176, t177⟩, A50, H⟩ := H
  replace H : ((cressetlaw01_live.f k).bind fun t178 => (if t178 = true then ((codec_PutInt.f k l1 a0).bind fun t179 => ((bytes_Clone.f l1).bind fun t182 => (if t182.length + t169.length < 140737488355328 then ((bytes_Equal.f t179 (t182 ++ t169)).bind fun t188 => (if t188 = true then ((codec_Width.f k a0).bind fun t189 => (if t189 = (t169.length : Int) then (if t172 = t175 then (if t173 = t176 then (some (t174 == t177)) else (some false)) else (some false)) else (some false))) else (some false))) else (none)))) else (some false))) = some true := H
  have A5 := Aside0.mk A50
  clear A50
  replace H := Option.bind_eq_some_iff.mp H
  obtain ⟨t178, A60, H⟩ := H
  replace H : (if t178 = true then ((codec_PutInt.f k l1 a0).bind fun t179 => ((bytes_Clone.f l1).bind fun t182 => (if t182.length + t169.length < 140737488355328 then ((bytes_Equal.f t179 (t182 ++ t169)).bind fun t188 => (if t188 = true then ((codec_Width.f k a0).bind fun t189 => (if t189 = (t169.length : Int) then (if t172 = t175 then (if t173 = t176 then (some (t174 == t177)) else (some false)) else (some false)) else (some false))) else (some false))) else (none)))) else (some false)) = some true := H
  have A6 := Aside0.mk A60
  clear A60
  by_cases c7 : t178 = true
  · subst c7
    have H1 : ((codec_PutInt.f k l1 a0).bind fun t179 => ((bytes_Clone.f l1).bind fun t182 => (if t182.length + t169.length < 140737488355328 then ((bytes_Equal.f t179 (t182 ++ t169)).bind fun t188 => (if t188 = true then ((codec_Width.f k a0).bind fun t189 => (if t189 = (t169.length : Int) then (if t172 = t175 then (if t173 = t176 then (some (t174 == t177)) else (some false)) else (some false)) else (some false))) else (some false))) else (none)))) = some true := by rw [if_pos rfl] at H; first | done | exact H
    clear H
    have H := H1
    clear H1
    replace H := Option.bind_eq_some_iff.mp H
    obtain ⟨t179, A80, H⟩ := H
    replace H : ((bytes_Clone.f l1).bind fun t182 => (if t182.length + t169.length < 140737488355328 then ((bytes_Equal.f t179 (t182 ++ t169)).bind fun t188 => (if t188 = true then ((codec_Width.f k a0).bind fun t189 => (if t189 = (t169.length : Int) then (if t172 = t175 then (if t173 = t176 then (some (t174 == t177)) else (some false)) else (some false)) else (some false))) else (some false))) else (none))) = some true := H
    have A8 := Aside0.mk A80
    clear A80
    replace H := Option.bind_eq_some_iff.mp H
    obtain ⟨t182, A90, H⟩ := H
    replace H : (if t182.length + t169.length < 140737488355328 then ((bytes_Equal.f t179 (t182 ++ t169)).bind fun t188 => (if t188 = true then ((codec_Width.f k a0).bind fun t189 => (if t189 = (t169.length : Int) then (if t172 = t175 then (if t173 = t176 then (some (t174 == t177)) else (some false)) else (some false)) else (some false))) else (some false))) else (none)) = some true := H
    have A9 := Aside0.mk A90
    clear A90
    by_cases c10 : t182.length + t169.length < 140737488355328
    · rw [if_pos c10] at H
      have LMc10 := Aside0.mk c10
      clear c10
      obtain ⟨y185, hy185⟩ : ∃ y_ : List Int, y_ = (t182 ++ t169) := ⟨_, rfl⟩
      replace H : ((bytes_Equal.f t179 y185).bind fun t188 => (if t188 = true then ((codec_Width.f k a0).bind fun t189 => (if t189 = (t169.length : Int) then (if t172 = t175 then (if t173 = t176 then (some (t174 == t177)) else (some false)) else (some false)) else (some false))) else (some false))) = some true := by first | (rw [hy185]; with_reducible exact H) | (have H2_ := (Option.bind_some _ _).symm.trans H; rw [hy185]; with_reducible exact H2_) | (have H2_ := (Option.bind_some _ _).symm.trans H; with_reducible exact H2_) | with_reducible exact H | (rw [hy185]; exact H) | exact H
      have Ny185 := Aside0.mk hy185
      clear hy185
      replace H := Option.bind_eq_some_iff.mp H
      obtain ⟨t188, A110, H⟩ := H
      replace H : (if t188 = true then ((codec_Width.f k a0).bind fun t189 => (if t189 = (t169.length : Int) then (if t172 = t175 then (if t173 = t176 then (some (t174 == t177)) else (some false)) else (some false)) else (some false))) else (some false)) = some true := H
      have A11 := Aside0.mk A110
      clear A110
      by_cases c12 : t188 = true
      · subst c12
        have H1 : ((codec_Width.f k a0).bind fun t189 => (if t189 = (t169.length : Int) then (if t172 = t175 then (if t173 = t176 then (some (t174 == t177)) else (some false)) else (some false)) else (some false))) = some true := by rw [if_pos rfl] at H; first | done | exact H
        clear H
        have H := H1
        clear H1
        replace H := Option.bind_eq_some_iff.mp H
        obtain ⟨t189, A130, H⟩ := H
        replace H : (if t189 = (t169.length : Int) then (if t172 = t175 then (if t173 = t176 then (some (t174 == t177)) else (some false)) else (some false)) else (some false)) = some true := H
        have A13 := Aside0.mk A130
        clear A130
        by_cases c14 : t189 = (t169.length : Int)
        · rw [if_pos c14] at H
          have c14b0 : (t189 == (t169.length : Int)) = true := beq_iff_eq.mpr c14
          have c14b1 : (t189 != (t169.length : Int)) = false := bne_eq_false_iff_eq.mpr c14
          clear c14
          by_cases c15 : t172 = t175
          · rw [if_pos c15] at H
            have c15b0 : (t172 == t175) = true := beq_iff_eq.mpr c15
            have c15b1 : (t172 != t175) = false := bne_eq_false_iff_eq.mpr c15
            clear c15
            by_cases c16 : t173 = t176
            · rw [if_pos c16] at H
              have c16b0 : (t173 == t176) = true := beq_iff_eq.mpr c16
              have c16b1 : (t173 != t176) = false := bne_eq_false_iff_eq.mpr c16
              clear c16
              have HRT := Aside0.mk (Option.some.inj H)
              clear H
              go_enter Try.func4, Try.ntmps4
              go_wp2_with (first | ((with_reducible refine gate_callee (f := 18) rfl ?_); refine goesL_ (some 13) rfl rfl Try.func18 (by kernel_rfl) rfl #[.int .i64 a0] rfl (by (try simp only [List.map_toArray, List.map_cons, List.map_nil]); first | done | rfl | (simp only [List.length_drop, List.length_take]; rfl)) ?_; (with_reducible refine (cressetref01_Int.calls k a0 t169 _ A3.out).mono ?_); rintro e w17 ⟨v170, rfl, ho0, hb⟩; refine ⟨_, rfl, ?_⟩; have n0_ := Aside0.mk (Kd.R_lower ho0 (below_size (by repeat (first | (with_reducible first | exact HB.out | apply below_alloc | apply pw_below_drewN | apply below_drew1) | exact HB.out)))); have n1_ := Aside0.mk (below_step (by repeat (first | (with_reducible first | exact HB.out | apply below_alloc | apply pw_below_drewN | apply below_drew1) | exact HB.out)) hb); clear HB; have HO171 := n0_; have HB := n1_; clear n0_ n1_; (try clear hb); (try clear hb2); (try clear hk); (try clear hi); (try clear ho0)) | ((with_reducible refine gate_callee (f := 19) rfl ?_); refine goesL_ (some 16) rfl rfl Try.func19 (by kernel_rfl) rfl #[.slice A1 l1.length c1] rfl (by (try simp only [List.map_toArray, List.map_cons, List.map_nil]); first | done | rfl | (simp only [List.length_drop, List.length_take]; rfl)) ?_; (with_reducible refine (codec_Int.calls k _ _ l1 t172 t173 t174 _ ?side1 ?side2 A4.out).mono ?_); (case side1 => repeat (first | exact (Kd.C_below HR1.out HB.out) | (with_reducible refine Kd.C_alloc ?_ _) | (with_reducible refine Kd.C_drewN ?_ _) | (with_reducible refine Kd.C_drew ?_))); (case side2 => exact HC1.out); rintro e w' ⟨rfl, ⟨nd, rfl⟩⟩; refine ⟨_, rfl, ?_⟩) | ((with_reducible refine gate_callee (f := 20) rfl ?_); refine goesL_ (some 22) rfl rfl Try.func20 (by kernel_rfl) rfl #[.slice A1 l1.length c1] rfl (by (try simp only [List.map_toArray, List.map_cons, List.map_nil]); first | done | rfl | (simp only [List.length_drop, List.length_take]; rfl)) ?_; (with_reducible refine (cressetref01_ParseInt.calls k _ _ l1 t175 t176 t177 _ ?side1 ?side2 A5.out).mono ?_); (case side1 => repeat (first | exact (Kd.C_below HR1.out (by repeat (first | (with_reducible first | exact HB.out | apply below_alloc | apply pw_below_drewN | apply below_drew1) | exact HB.out))) | (with_reducible refine Kd.C_alloc ?_ _) | (with_reducible refine Kd.C_drewN ?_ _) | (with_reducible refine Kd.C_drew ?_))); (case side2 => exact HC1.out); rintro e w' ⟨rfl, ⟨nd, rfl⟩⟩; refine ⟨_, rfl, ?_⟩) | ((with_reducible refine gate_callee (f := 15) rfl ?_); refine goesL_ (some 26) rfl rfl Try.func15 (by kernel_rfl) rfl #[] rfl (by (try simp only [List.map_toArray, List.map_cons, List.map_nil]); first | done | rfl | (simp only [List.length_drop, List.length_take]; rfl)) ?_; (with_reducible refine (cressetlaw01_live.calls k  true _ A6.out).mono ?_); rintro e w18 ⟨rfl, hb⟩; refine ⟨_, rfl, ?_⟩; have n0_ := Aside0.mk (Kd.R_below (by (with_reducible repeat (first | apply Kd.R_alloc | apply Kd.R_drewN | apply Kd.R_drew)); exact HO171.out) hb); have n1_ := Aside0.mk (below_step (by repeat (first | (with_reducible first | exact HB.out | apply below_alloc | apply pw_below_drewN | apply below_drew1) | exact HB.out)) hb); clear HO171; clear HB; have HO171 := n0_; have HB := n1_; clear n0_ n1_; (try clear hb); (try clear hb2); (try clear hk); (try clear hi)) | (go_at_call 22; (with_reducible refine (codec_PutInt.calls k _ _ l1 a0 t179 _ ?side1 ?side2 A8.out).mono ?_); (case side1 => repeat (first | exact (Kd.C_below HR1.out HB.out) | (with_reducible refine Kd.C_alloc ?_ _) | (with_reducible refine Kd.C_drewN ?_ _) | (with_reducible refine Kd.C_drew ?_))); (case side2 => exact HC1.out); rintro e w19 ⟨v180, rfl, ho0, hb⟩; have n0_ := Aside0.mk (Kd.R_elder' (by (with_reducible repeat (first | apply Kd.R_alloc | apply Kd.R_drewN | apply Kd.R_drew)); exact HO171.out) (Kd.R_base ho0) hb); have n1_ := Aside0.mk (Kd.R_lower (Kd.R_new' ho0 (Kd.R_lt (by (with_reducible repeat (first | apply Kd.R_alloc | apply Kd.R_drewN | apply Kd.R_drew)); exact HO171.out))) (below_size (by repeat (first | (with_reducible first | exact HB.out | apply below_alloc | apply pw_below_drewN | apply below_drew1) | exact HB.out)))); have n2_ := Aside0.mk (below_step (by repeat (first | (with_reducible first | exact HB.out | apply below_alloc | apply pw_below_drewN | apply below_drew1) | exact HB.out)) hb); clear HO171; clear HB; have HO171 := n0_; have HO181 := n1_; have HB := n2_; clear n0_ n1_ n2_; (try clear hb); (try clear hb2); (try clear hk); (try clear hi); (try clear ho0)) | (go_at_call 23; (with_reducible refine (bytes_Clone.calls _ _ l1 t182 _ ?side1 ?side2 A9.out).mono ?_); (case side1 => repeat (first | exact (Kd.C_below HR1.out HB.out) | (with_reducible refine Kd.C_alloc ?_ _) | (with_reducible refine Kd.C_drewN ?_ _) | (with_reducible refine Kd.C_drew ?_))); (case side2 => exact HC1.out); rintro e w20 ⟨v183, rfl, ho0, hb⟩; have n0_ := Aside0.mk (Kd.R_elder' (by (with_reducible repeat (first | apply Kd.R_alloc | apply Kd.R_drewN | apply Kd.R_drew)); exact HO171.out) (Kd.R_base ho0) hb); have n1_ := Aside0.mk (Kd.R_elder' (by (with_reducible repeat (first | apply Kd.R_alloc | apply Kd.R_drewN | apply Kd.R_drew)); exact HO181.out) (Kd.R_base ho0) hb); have n2_ := Aside0.mk (Kd.R_lower (Kd.R_new' (Kd.R_new' ho0 (Kd.R_lt (by (with_reducible repeat (first | apply Kd.R_alloc | apply Kd.R_drewN | apply Kd.R_drew)); exact HO171.out))) (Kd.R_lt (by (with_reducible repeat (first | apply Kd.R_alloc | apply Kd.R_drewN | apply Kd.R_drew)); exact HO181.out))) (below_size (by repeat (first | (with_reducible first | exact HB.out | apply below_alloc | apply pw_below_drewN | apply below_drew1) | exact HB.out)))); have n3_ := Aside0.mk (below_step (by repeat (first | (with_reducible first | exact HB.out | apply below_alloc | apply pw_below_drewN | apply below_drew1) | exact HB.out)) hb); clear HO171; clear HO181; clear HB; have HO171 := n0_; have HO181 := n1_; have HO184 := n2_; have HB := n3_; clear n0_ n1_ n2_ n3_; (try clear hb); (try clear hb2); (try clear hk); (try clear hi); (try clear ho0); obtain ⟨Ao22, co22, eo22⟩ := Kd.R_slice HO171.out; subst eo22) | ((with_reducible refine gate_builtin (b := .append) (xs := #[.tmp 32, .tmp 33]) rfl ?_); (try (refine gate_guard (by rfl) ?_; dsimp only)); at_builtin; refine Kd.R_append_rows (Kd.int .u8) (w0 := w) w.heap.size rfl (.tmp 32) (.tmp 33) 23 5 (.int .u8 0) 1 rfl Try.underlying23 info5 rfl (by decide) (by omega) v183 t182 t169 _ _ _ (fun k_ => some k_ ≠ (.slice Ao22 t169.length co22 : Value).ownBlock ∧ some k_ ≠ (v180 : Value).ownBlock) (fun _ => False) rfl rfl ?aO ?aR (fun _ _ h => h) (fun _ h => h.elim) ?aF ?aB ?aS ?aL ?_; (case aR => repeat (first | exact (Kd.R_reads' HO171.out).2.2 | (with_reducible refine Kd.C_alloc ?_ _) | (with_reducible refine Kd.C_drewN ?_ _) | (with_reducible refine Kd.C_drew ?_))); (case aB => exact (by repeat (first | (with_reducible first | exact HB.out | apply below_alloc | apply pw_below_drewN | apply below_drew1) | exact HB.out))); (case aF => exact (fun k_ hk => ⟨Kd.fresh' (Kd.R_lt (by (with_reducible repeat (first | apply Kd.R_alloc | apply Kd.R_drewN | apply Kd.R_drew)); exact HO171.out)) k_ hk, Kd.fresh' (Kd.R_lt (by (with_reducible repeat (first | apply Kd.R_alloc | apply Kd.R_drewN | apply Kd.R_drew)); exact HO181.out)) k_ hk⟩)); (case aO => exact (by (with_reducible repeat (first | apply Kd.R_alloc | apply Kd.R_drewN | apply Kd.R_drew)); exact Kd.R_mono HO184.out (fun _ hk => ⟨hk.1.2, hk.2⟩))); (case aS => exact (below_size (by repeat (first | (with_reducible first | exact HB.out | apply below_alloc | apply pw_below_drewN | apply below_drew1) | exact HB.out)))); (case aL => have := LMc10.out; omega); intro v186 w21 ho hb hg hat; rw [← Ny185.out] at ho; have n0_ := Aside0.mk (Kd.R_after (ok := (fun k_ => some k_ ≠ (v180 : Value).ownBlock)) (by (with_reducible repeat (first | apply Kd.R_alloc | apply Kd.R_drewN | apply Kd.R_drew)); exact Kd.R_mono HO171.out (fun _ hk => ⟨hk.1.2, hk.2⟩)) hg hat); have n1_ := Aside0.mk (Kd.R_after (ok := (fun k_ => some k_ ≠ (.slice Ao22 t169.length co22 : Value).ownBlock)) (by (with_reducible repeat (first | apply Kd.R_alloc | apply Kd.R_drewN | apply Kd.R_drew)); exact Kd.R_mono HO181.out (fun _ hk => ⟨hk.1.2, hk.2⟩)) hg hat); have n2_ := Aside0.mk (hb); have n3_ := Aside0.mk (ho); clear HO171; clear HO181; clear HB; clear HO184; have HO171 := n0_; have HO181 := n1_; have HB := n2_; have HO187 := n3_; clear n0_ n1_ n2_ n3_; clear ho hb hg hat; obtain ⟨Ao23, co23, eo23⟩ := Kd.R_slice HO181.out; subst eo23; obtain ⟨Ao24, co24, eo24⟩ := Kd.R_slice HO187.out; subst eo24) | (go_at_call 21; (with_reducible refine (bytes_Equal.calls _ _ t179 _ _ y185 true _ ?side1 ?side2 ?side3 ?side4 A11.out).mono ?_); (case side1 => repeat (first | exact (Kd.R_reads' HO181.out).2.2 | (with_reducible refine Kd.C_alloc ?_ _) | (with_reducible refine Kd.C_drewN ?_ _) | (with_reducible refine Kd.C_drew ?_))); (case side2 => exact (Kd.R_reads' HO181.out).2.1); (case side3 => repeat (first | exact (Kd.R_reads' HO187.out).2.2 | (with_reducible refine Kd.C_alloc ?_ _) | (with_reducible refine Kd.C_drewN ?_ _) | (with_reducible refine Kd.C_drew ?_))); (case side4 => exact (Kd.R_reads' HO187.out).2.1); rintro e w' ⟨rfl, ⟨nd, rfl⟩⟩) | (go_at_call 24; (with_reducible refine (codec_Width.calls k a0 t189 _ A13.out).mono ?_); rintro e w' ⟨rfl, ⟨nd, rfl⟩⟩))
              go_ret
              exact ⟨by first | exact congrArg (fun b_ => Ending.returned (.bool b_)) HRT.out | rfl | (simp [errW_none, errW_some] <;> rfl) | (simp [*, errW_none, errW_some] <;> rfl), by repeat (first | (with_reducible first | exact HB.out | apply below_alloc | apply pw_below_drewN | apply below_drew1) | exact HB.out)⟩
            · rw [if_neg c16] at H
              have c16b0 : (t173 == t176) = false := beq_eq_false_iff_ne.mpr c16
              have c16b1 : (t173 != t176) = true := bne_iff_ne.mpr c16
              exact absurd H (by simp)
          · rw [if_neg c15] at H
            have c15b0 : (t172 == t175) = false := beq_eq_false_iff_ne.mpr c15
            have c15b1 : (t172 != t175) = true := bne_iff_ne.mpr c15
            exact absurd H (by simp)
        · rw [if_neg c14] at H
          have c14b0 : (t189 == (t169.length : Int)) = false := beq_eq_false_iff_ne.mpr c14
          have c14b1 : (t189 != (t169.length : Int)) = true := bne_iff_ne.mpr c14
          exact absurd H (by simp)
      · replace c12 := Bool.eq_false_iff.mpr c12
        subst c12
        have H1 : (some false) = some true := by rw [if_neg (show ¬ (false = true) by decide)] at H; first | done | exact H
        clear H
        have H := H1
        clear H1
        exact absurd H (by simp)
    · rw [if_neg c10] at H
      exact absurd H (by simp)
  · replace c7 := Bool.eq_false_iff.mpr c7
    subst c7
    have H1 : (some false) = some true := by rw [if_neg (show ¬ (false = true) by decide)] at H; first | done | exact H
    clear H
    have H := H1
    clear H1
    exact absurd H (by simp)

/-- THE ONE PURE STATEMENT of cressetlaw01_CodecInts: yours. -/
def cressetlaw01_CodecInts.Pure : Prop := ∀ (a0 : Int) (l1 : List Int), (Lit.int .i64 a0).wf = true → (l1.length ≤ maxLen ∧ l1.length * 1 ≤ 140737488351232 ∧ ∀ x_ ∈ l1, (Lit.int .u8 x_).wf = true) → ∃ k, cressetlaw01_CodecInts.f k a0 l1 = some true
theorem cressetlaw01_CodecInts.walk (P : cressetlaw01_CodecInts.Pure) (a0 : Int) (A1 : Option Addr) (c1 : Nat) (l1 : List Int) (w : World) (hr1 : Kd.C (Kd.int .u8) w A1 l1.length l1) (hc1 : l1.length ≤ c1) (w0 : (Lit.int .i64 a0).wf = true) (w1 : (l1.length ≤ maxLen ∧ l1.length * 1 ≤ 140737488351232 ∧ ∀ x_ ∈ l1, (Lit.int .u8 x_).wf = true)) :
    Calls Try.prog 4 #[.int .i64 a0, .slice A1 l1.length c1] w fun e w' => e = .returned (.bool true) ∧ Below w.heap.size w w' := by
  obtain ⟨k, h⟩ := P a0 l1 w0 w1
  refine (cressetlaw01_CodecInts.calls k a0 A1 c1 l1 w hr1 hc1 h).mono ?_
  rintro e w' ⟨rfl, hd⟩
  exact ⟨rfl, hd⟩

end Go.Proofs.Ytphdinelioendaa.B

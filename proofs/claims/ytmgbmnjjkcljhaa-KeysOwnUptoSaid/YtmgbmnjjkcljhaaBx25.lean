-- Written by a program of this session (wip/print2) out of Lean's print of the translation. Not trusted: Lean checks it.
import Derived.Test.YtmgbmnjjkcljhaaBx0
import Derived.Test.YtmgbmnjjkcljhaaBx6
import Derived.Test.YtmgbmnjjkcljhaaBx21
import Derived.Test.YtmgbmnjjkcljhaaBx22
import Derived.Test.YtmgbmnjjkcljhaaBx24
namespace Go.Proofs.Ytmgbmnjjkcljhaa.B
open Go.RowKit Go.Proofs.YtmgbmnjjkcljhaaW.PrintWords Go.Proofs.YtmgbmnjjkcljhaaW.PrintLast Go.Proofs.YtmgbmnjjkcljhaaW.PrintMore Go.Proofs.YtmgbmnjjkcljhaaW.Mine
attribute [local go_sem] max2_int min2_int max_two min_two max_three min_three max_four min_four str_gtr str_leq str_geq str_max str_min   -- for this text's walks alone
set_option linter.unusedVariables false
set_option linter.unusedSimpArgs false

/-! ### cressetlaw05_KeysOwn: function 8 -/
def cressetlaw05_KeysOwn.f (k : Nat) (l0 : List (S27)) (a1_0 : ByteArray) (a1_1 : ByteArray) : Option (Bool) := (some (([] : List (S27)) : List (S27))).bind fun y318 => (if y318.length + l0.length < 4398046511104 then ((keys_Union.f k l0).bind fun t324 => ((keys_Minus.f k l0 a1_0 a1_1).bind fun t327 => ((cressetlaw05_live.f k).bind fun t333 => (if t333 = true then ((cressetref05_Same.f k l0 (y318 ++ l0)).bind fun t334 => (some t334)) else (some false))))) else (none))
theorem cressetlaw05_KeysOwn.mono : ∀ a0 a1 a2 k, LeO (cressetlaw05_KeysOwn.f k a0 a1 a2) (cressetlaw05_KeysOwn.f (k + 1) a0 a1 a2) := by
  intro a0 a1 a2 k
  unfold cressetlaw05_KeysOwn.f
  repeat' first
      | (with_reducible exact cressetlaw05_live.mono _)
      | (with_reducible exact cressetref05_Same.mono _ _ _)
      | (with_reducible exact keys_Minus.mono _ _ _ _)
      | (with_reducible exact keys_Union.mono _ _)
      | (with_reducible exact LeO.refl _)
      | (with_reducible exact LeO.none _)
      | (with_reducible refine LeO.ite ?_ ?_)
      | (with_reducible refine LeO.bind ?_ (fun _ => ?_))
      | exact cressetlaw05_live.mono _
      | exact cressetref05_Same.mono _ _ _
      | exact keys_Minus.mono _ _ _ _
      | exact keys_Union.mono _ _
      | exact LeO.none _
      | refine LeO.ite ?_ ?_
      | refine LeO.bind ?_ (fun _ => ?_)
def cressetlaw05_KeysOwn.T2 : Bool × List (List Nat × List Nat) := (true, [([], []), ([0], [0]), ([], []), ([], []), ([2, 3, 1], [2, 3]), ([1, 4], [1, 4]), ([5], [5]), ([], [])])
def cressetlaw05_KeysOwn.B2 : List Nat := [0, 1, 0, 0, 15, 31, 63, 0]
theorem cressetlaw05_KeysOwn.tab2 : rtab .any (opsOf Try.f8 2) = cressetlaw05_KeysOwn.T2 := by kernel_rfl
theorem cressetlaw05_KeysOwn.bits2 : waitsOk cressetlaw05_KeysOwn.T2.2 cressetlaw05_KeysOwn.B2 = true := by kernel_rfl
set_option maxHeartbeats 8000000 in
set_option maxRecDepth 100000 in
theorem cressetlaw05_KeysOwn.calls (k : Nat) (A0 : Option Addr) (c0 : Nat) (l0 : List (S27)) (a1_0 : ByteArray) (a1_1 : ByteArray) (w : World) (hr0 : Kd.C k27 w A0 l0.length l0) (hc0 : l0.length ≤ c0) (h : cressetlaw05_KeysOwn.f k l0 a1_0 a1_1 = some true) :
    Calls Try.prog 8 #[.slice A0 l0.length c0, .agg #[.string a1_0, .string a1_1]] w fun e w' => e = .returned (.bool true) ∧ Below w.heap.size w w' := by
  have hu27 := Try.underlying27
  have HR0 := Aside0.mk hr0
  have HC0 := Aside0.mk hc0
  clear hr0 hc0
  have HB := Aside0.mk (Below.refl w.heap.size w)
  have H : ((some (([] : List (S27)) : List (S27))).bind fun y318 => (if y318.length + l0.length < 4398046511104 then ((keys_Union.f k l0).bind fun t324 => ((keys_Minus.f k l0 a1_0 a1_1).bind fun t327 => ((cressetlaw05_live.f k).bind fun t333 => (if t333 = true then ((cressetref05_Same.f k l0 (y318 ++ l0)).bind fun t334 => (some t334)) else (some false))))) else (none))) = some true := h
  clear h
  obtain ⟨y318, hy318⟩ : ∃ y_ : List (S27), y_ = (([] : List (S27))) := ⟨_, rfl⟩
  replace H : (if y318.length + l0.length < 4398046511104 then ((keys_Union.f k l0).bind fun t324 => ((keys_Minus.f k l0 a1_0 a1_1).bind fun t327 => ((cressetlaw05_live.f k).bind fun t333 => (if t333 = true then ((cressetref05_Same.f k l0 (y318 ++ l0)).bind fun t334 => (some t334)) else (some false))))) else (none)) = some true := by first | (rw [hy318]; with_reducible exact H) | (have H2_ := (Option.bind_some _ _).symm.trans H; rw [hy318]; with_reducible exact H2_) | (have H2_ := (Option.bind_some _ _).symm.trans H; with_reducible exact H2_) | with_reducible exact H | (rw [hy318]; exact H) | exact H
  have Ny318 := Aside0.mk hy318
  clear hy318
  by_cases c3 : y318.length + l0.length < 4398046511104
  · rw [if_pos c3] at H
    have LMc3 := Aside0.mk c3
    clear c3
    obtain ⟨y321, hy321⟩ : ∃ y_ : List (S27), y_ = (y318 ++ l0) := ⟨_, rfl⟩
    replace H : ((keys_Union.f k l0).bind fun t324 => ((keys_Minus.f k l0 a1_0 a1_1).bind fun t327 => ((cressetlaw05_live.f k).bind fun t333 => (if t333 = true then ((cressetref05_Same.f k l0 y321).bind fun t334 => (some t334)) else (some false))))) = some true := by first | (rw [hy321]; with_reducible exact H) | (have H2_ := (Option.bind_some _ _).symm.trans H; rw [hy321]; with_reducible exact H2_) | (have H2_ := (Option.bind_some _ _).symm.trans H; with_reducible exact H2_) | with_reducible exact H | (rw [hy321]; exact H) | exact H
    have Ny321 := Aside0.mk hy321
    clear hy321
    replace H := Option.bind_eq_some_iff.mp H
    obtain ⟨t324, A40, H⟩ := H
    replace H : ((keys_Minus.f k l0 a1_0 a1_1).bind fun t327 => ((cressetlaw05_live.f k).bind fun t333 => (if t333 = true then ((cressetref05_Same.f k l0 y321).bind fun t334 => (some t334)) else (some false)))) = some true := H
    have A4 := Aside0.mk A40
    clear A40
    replace H := Option.bind_eq_some_iff.mp H
    obtain ⟨t327, A50, H⟩ := H
    replace H : ((cressetlaw05_live.f k).bind fun t333 => (if t333 = true then ((cressetref05_Same.f k l0 y321).bind fun t334 => (some t334)) else (some false))) = some true := H
    have A5 := Aside0.mk A50
    clear A50
    obtain ⟨y330, hy330⟩ : ∃ y_ : List (List (S27)), y_ = (([t324, t327] : List (List (S27)))) := ⟨_, rfl⟩
    replace H : ((cressetlaw05_live.f k).bind fun t333 => (if t333 = true then ((cressetref05_Same.f k l0 y321).bind fun t334 => (some t334)) else (some false))) = some true := by first | (rw [hy330]; with_reducible exact H) | (have H2_ := (Option.bind_some _ _).symm.trans H; rw [hy330]; with_reducible exact H2_) | (have H2_ := (Option.bind_some _ _).symm.trans H; with_reducible exact H2_) | with_reducible exact H | (rw [hy330]; exact H) | exact H
    have Ny330 := Aside0.mk hy330
    clear hy330
    replace H := Option.bind_eq_some_iff.mp H
    obtain ⟨t333, A60, H⟩ := H
    replace H : (if t333 = true then ((cressetref05_Same.f k l0 y321).bind fun t334 => (some t334)) else (some false)) = some true := H
    have A6 := Aside0.mk A60
    clear A60
    by_cases c7 : t333 = true
    · subst c7
      have H1 : ((cressetref05_Same.f k l0 y321).bind fun t334 => (some t334)) = some true := by rw [if_pos rfl] at H; first | done | exact H
      clear H
      have H := H1
      clear H1
      replace H := Option.bind_eq_some_iff.mp H
      obtain ⟨t334, A80, H⟩ := H
      replace H : (some t334) = some true := H
      have A8 := Aside0.mk A80
      clear A80
      have HRT := Aside0.mk (Option.some.inj H)
      clear H
      go_enter Try.func8, Try.ntmps8
      try go_wp2_with (first | ((with_reducible refine gate_dst (N := 3) rfl ?_); refine box_event ?hg (N := 3) ?hd (cs := #[.string a1_0, .string a1_1]) (t := 27) ?hr ?_; (case hd => rfl); (case hg => rfl); (case hr => first | (go_simp; done) | (go_simp; rfl)); intro gb317 hg w9 hbox hb; have n0_ := Aside0.mk (below_step (by repeat (first | (with_reducible first | exact HB.out | apply below_alloc | apply pw_below_drewN | apply below_drew1) | exact HB.out)) hb); have n1_ := Aside0.mk (hbox); have n2_ := Aside0.mk ((by rw [hg]; exact (below_size (by repeat (first | (with_reducible first | exact HB.out | apply below_alloc | apply pw_below_drewN | apply below_drew1) | exact HB.out))) : w.heap.size ≤ gb317)); have n3_ := Aside0.mk ((by rw [hg]; exact (below_size (by repeat (first | (with_reducible first | exact HB.out | apply below_alloc | apply pw_below_drewN | apply below_drew1) | exact HB.out))) : w.heap.size ≤ gb317)); clear HB; have HB := n0_; have BK317 := n1_; have GW317 := n2_; have GE317 := n3_; clear n0_ n1_ n2_ n3_; clear hb hbox hg) | ((with_reducible refine gate_dst (N := 9) rfl ?_); refine Kd.R_lit k27 _ 27 ?hg (N := 9) ?hd (xs := ([] : List (S27))) (inner := []) (ok := fun _ => True) (okp := fun _ => True) ?hr ?hp (fun _ hk => hk) trivial (Below.refl _ _) (Nat.le_refl _) (by simp) ?_; (case hd => rfl); (case hg => rfl); (case hr => first | (go_simp; done) | (go_simp; rfl)); (case hp => exact (Reps.none _ _)); intro v319 w10 ho11 hb hg_ hnew_; clear hg_ hnew_; (first | rw [← Ny318.out] at ho11 | (simp only [Int.reduceToNat] at ho11; rw [← Ny318.out] at ho11)); have n0_ := Aside0.mk (Kd.R_lower (Kd.R_newB ho11 (g := gb317) (o := .cells #[.string a1_0, .string a1_1] 27 (0, 0)) (by (with_reducible repeat (first | refine blk_drewN ?_ _ | refine blk_drew ?_ | refine blk_alloc ?_ _)); exact BK317.out)) (below_size (by repeat (first | (with_reducible first | exact HB.out | apply below_alloc | apply pw_below_drewN | apply below_drew1 | refine below_set ?_ GE317.out) | exact HB.out)))); have n1_ := Aside0.mk (blk_below (g := gb317) (o := .cells #[.string a1_0, .string a1_1] 27 (0, 0)) (by (with_reducible repeat (first | refine blk_drewN ?_ _ | refine blk_drew ?_ | refine blk_alloc ?_ _)); exact BK317.out) hb); have n2_ := Aside0.mk (below_step (by repeat (first | (with_reducible first | exact HB.out | apply below_alloc | apply pw_below_drewN | apply below_drew1 | refine below_set ?_ GE317.out) | exact HB.out)) hb); clear BK317; clear HB; have HO320 := n0_; have BK317 := n1_; have HB := n2_; clear n0_ n1_ n2_; clear hb ho11) | ((with_reducible refine gate_builtin (b := .append) (xs := #[.tmp 9, .tmp 10]) rfl ?_); at_builtin; refine Kd.R_append_rows k27 (w0 := w) w.heap.size rfl (.tmp 9) (.tmp 10) 36 27 (.agg #[(.string ⟨#[]⟩), (.string ⟨#[]⟩)]) 32 rfl Try.underlying36 info27 rfl (by decide) (by omega) v319 y318 l0 _ _ _ (fun k_ => k_ ≠ gb317) (fun _ => False) rfl rfl ?aO ?aR (fun _ _ h => h) (fun _ h => h.elim) ?aF ?aB ?aS ?aL ?_; (case aR => repeat (first | exact (Kd.C_below HR0.out HB.out) | (with_reducible refine Kd.C_alloc ?_ _) | (with_reducible refine Kd.C_drewN ?_ _) | (with_reducible refine Kd.C_drew ?_))); (case aB => exact (by repeat (first | (with_reducible first | exact HB.out | apply below_alloc | apply pw_below_drewN | apply below_drew1 | refine below_set ?_ GE317.out) | exact HB.out))); (case aF => exact (fun k_ hk => Kd.freshB (g := gb317) (o := .cells #[.string a1_0, .string a1_1] 27 (0, 0)) (by (with_reducible repeat (first | refine blk_drewN ?_ _ | refine blk_drew ?_ | refine blk_alloc ?_ _)); exact BK317.out) k_ hk)); (case aO => exact (by (with_reducible repeat (first | apply Kd.R_alloc | apply Kd.R_drewN | apply Kd.R_drew)); exact Kd.R_mono HO320.out (fun _ hk => hk.2))); (case aS => exact (below_size (by repeat (first | (with_reducible first | exact HB.out | apply below_alloc | apply pw_below_drewN | apply below_drew1 | refine below_set ?_ GE317.out) | exact HB.out)))); (case aL => have := LMc3.out; omega); intro v322 w12 ho hb hg hat; rw [← Ny321.out] at ho; have n0_ := Aside0.mk (blk_grown (g := gb317) (o := .cells #[.string a1_0, .string a1_1] 27 (0, 0)) (by (with_reducible repeat (first | refine blk_drewN ?_ _ | refine blk_drew ?_ | refine blk_alloc ?_ _)); exact BK317.out) hg (Kd.R_away HO320.out (fun _ hk => hk.2))); have n1_ := Aside0.mk (hb); have n2_ := Aside0.mk (ho); clear BK317; clear HB; clear HO320; have BK317 := n0_; have HB := n1_; have HO323 := n2_; clear n0_ n1_ n2_; clear ho hb hg hat))
      have n0_ := Aside0.mk (Kd.R_drew HO323.out)
      have n1_ := Aside0.mk (blk_drew BK317.out)
      have n2_ := Aside0.mk (below_drew1 HB.out)
      clear HO323
      clear BK317
      clear HB
      have HO323 := n0_
      have BK317 := n1_
      have HB := n2_
      clear n0_ n1_ n2_
      refine start_ (n := 8) (S := fun w' => w'.cell? ⟨gb317, 0, none⟩ = some (.string a1_0) ∧ w'.cell? ⟨gb317, 1, none⟩ = some (.string a1_1)) (ds := []) #[false, false, false, false, false, false, false, false] (by kernel_rfl) rfl rfl ⟨(blk_cell BK317.out 0).trans rfl, (blk_cell BK317.out 1).trans rfl⟩ (fun hHeld => ?_); refine with_tabW cressetlaw05_KeysOwn.tab2 cressetlaw05_KeysOwn.bits2 (fun HT_ HW_ => ?_)
      generalize w12.drew = w13 at HO323 BK317 HB hHeld ⊢
      refine pure_ (i := 0) (N := some 12) (v := ?_) (a' := ?_) #[true, false, false, false, false, false, false, false] rfl rfl (any_of HT_.out (by kernel_rfl)) (fun _ _ _ h => h) (Or.inl ⟨by rfl, ?_⟩) ?_ ?_
      rotate_left
      · intro w'
        go_simp
        with_reducible rfl
      rotate_left
      · simp only [Act.put, List.setIfInBounds_toArray, List.set_cons_zero, List.set_cons_succ, i64_w, i32_w]
        rfl
      refine pure_ (i := 2) (N := some 14) (v := ?_) (a' := ?_) #[true, false, true, false, false, false, false, false] rfl rfl (any_of HT_.out (by kernel_rfl)) (fun _ _ _ h => h) (Or.inl ⟨by rfl, ?_⟩) ?_ ?_
      rotate_left
      · intro w'
        go_simp
        with_reducible rfl
      rotate_left
      · simp only [Act.put, List.setIfInBounds_toArray, List.set_cons_zero, List.set_cons_succ, i64_w, i32_w]
        rfl
      refine pure_ (i := 7) (N := some 19) (v := ?_) (a' := ?_) #[true, false, true, false, false, false, false, true] rfl rfl (any_of HT_.out (by kernel_rfl)) (fun _ _ _ h => h) (Or.inl ⟨by rfl, ?_⟩) ?_ ?_
      rotate_left
      · intro w'
        go_simp
        with_reducible rfl
      rotate_left
      · simp only [Act.put, List.setIfInBounds_toArray, List.set_cons_zero, List.set_cons_succ, i64_w, i32_w]
        rfl
      refine take_ (i := 3) (N := some 15) (v := ?_) (a' := ?_) #[true, false, true, true, false, false, false, true] rfl rfl (take_ofW HT_.out HW_.out (by kernel_rfl)) (fun _ _ _ h => h) (Or.inl ⟨by rfl, ?_⟩) hHeld ?_ ?_
      rotate_left
      · rintro w' ⟨s0, s1⟩
        go_simp
        with_reducible rfl
      rotate_left
      · simp only [Act.put, List.setIfInBounds_toArray, List.set_cons_zero, List.set_cons_succ, i64_w, i32_w]
        rfl
      refine one_ (i := 1) (N := some 13) #[true, true, true, true, false, false, false, true] rfl rfl (one_of HT_.out (by kernel_rfl)) (by decide) (fun K hK => ?_)
      refine goes_ Try.func29 (by kernel_rfl) rfl #[.slice A0 l0.length c0] (by rfl) rfl rfl (by (try simp only [List.map_toArray, List.map_cons, List.map_nil]); first | done | rfl | (simp only [List.length_drop, List.length_take]; rfl)) ?_
      with_reducible refine (keys_Union.calls k _ _ l0 t324 _ ?side1 ?side2 A4.out).mono ?_
      (case side1 => repeat (first | exact (Kd.C_below HR0.out HB.out) | (with_reducible refine Kd.C_alloc ?_ _) | (with_reducible refine Kd.C_drewN ?_ _) | (with_reducible refine Kd.C_drew ?_)))
      (case side2 => exact HC0.out)
      rintro e w14 ⟨v325, rfl, ho0, hb⟩
      refine ⟨_, rfl, ?_⟩
      have n0_ := Aside0.mk (Kd.R_elder' (by (with_reducible repeat (first | apply Kd.R_alloc | apply Kd.R_drewN | apply Kd.R_drew)); exact HO323.out) (Kd.R_base ho0) hb)
      have n1_ := Aside0.mk (Kd.R_lower (Kd.R_newB (Kd.R_new' ho0 (Kd.R_lt (by (with_reducible repeat (first | apply Kd.R_alloc | apply Kd.R_drewN | apply Kd.R_drew)); exact HO323.out))) (g := gb317) (o := .cells #[.string a1_0, .string a1_1] 27 (0, 0)) (by (with_reducible repeat (first | refine blk_drewN ?_ _ | refine blk_drew ?_ | refine blk_alloc ?_ _)); exact BK317.out)) (below_size (by repeat (first | (with_reducible first | exact HB.out | apply below_alloc | apply pw_below_drewN | apply below_drew1 | refine below_set ?_ GE317.out) | exact HB.out))))
      have n2_ := Aside0.mk (blk_below (g := gb317) (o := .cells #[.string a1_0, .string a1_1] 27 (0, 0)) (by (with_reducible repeat (first | refine blk_drewN ?_ _ | refine blk_drew ?_ | refine blk_alloc ?_ _)); exact BK317.out) hb)
      have n3_ := Aside0.mk (below_step (by repeat (first | (with_reducible first | exact HB.out | apply below_alloc | apply pw_below_drewN | apply below_drew1 | refine below_set ?_ GE317.out) | exact HB.out)) hb)
      clear HO323
      clear BK317
      clear HB
      have HO323 := n0_
      have HO326 := n1_
      have BK317 := n2_
      have HB := n3_
      clear n0_ n1_ n2_ n3_
      (try clear hb)
      (try clear hb2)
      (try clear hk)
      (try clear hi)
      (try clear ho0)
      refine hK.out _ _ ⟨(blk_cell BK317.out 0).trans rfl, (blk_cell BK317.out 1).trans rfl⟩ (fun hHeld => ?_)
      clear hK K
      refine norm_ (a' := ?_) ?_ ?_
      rotate_left
      · show Act.put _ (some 13) _ = _
        simp only [Act.put, List.setIfInBounds_toArray, List.set_cons_zero, List.set_cons_succ, i64_w, i32_w]
        rfl
      refine one_ (i := 4) (N := some 16) #[true, true, true, true, true, false, false, true] rfl rfl (one_of HT_.out (by kernel_rfl)) (by decide) (fun K hK => ?_)
      refine goes_ Try.func30 (by kernel_rfl) rfl #[.slice A0 l0.length c0, .agg #[.string a1_0, .string a1_1]] (by rfl) rfl rfl (by (try simp only [List.map_toArray, List.map_cons, List.map_nil]); first | done | rfl | (simp only [List.length_drop, List.length_take]; rfl)) ?_
      with_reducible refine (keys_Minus.calls k _ _ l0 a1_0 a1_1 t327 _ ?side1 ?side2 A5.out).mono ?_
      (case side1 => repeat (first | exact (Kd.C_below HR0.out HB.out) | (with_reducible refine Kd.C_alloc ?_ _) | (with_reducible refine Kd.C_drewN ?_ _) | (with_reducible refine Kd.C_drew ?_)))
      (case side2 => exact HC0.out)
      rintro e w15 ⟨v328, rfl, ho0, hb⟩
      refine ⟨_, rfl, ?_⟩
      have n0_ := Aside0.mk (Kd.R_elder' (by (with_reducible repeat (first | apply Kd.R_alloc | apply Kd.R_drewN | apply Kd.R_drew)); exact HO323.out) (Kd.R_base ho0) hb)
      have n1_ := Aside0.mk (Kd.R_elder' (by (with_reducible repeat (first | apply Kd.R_alloc | apply Kd.R_drewN | apply Kd.R_drew)); exact HO326.out) (Kd.R_base ho0) hb)
      have n2_ := Aside0.mk (Kd.R_lower (Kd.R_newB (Kd.R_new' (Kd.R_new' ho0 (Kd.R_lt (by (with_reducible repeat (first | apply Kd.R_alloc | apply Kd.R_drewN | apply Kd.R_drew)); exact HO323.out))) (Kd.R_lt (by (with_reducible repeat (first | apply Kd.R_alloc | apply Kd.R_drewN | apply Kd.R_drew)); exact HO326.out))) (g := gb317) (o := .cells #[.string a1_0, .string a1_1] 27 (0, 0)) (by (with_reducible repeat (first | refine blk_drewN ?_ _ | refine blk_drew ?_ | refine blk_alloc ?_ _)); exact BK317.out)) (below_size (by repeat (first | (with_reducible first | exact HB.out | apply below_alloc | apply pw_below_drewN | apply below_drew1 | refine below_set ?_ GE317.out) | exact HB.out))))
      have n3_ := Aside0.mk (blk_below (g := gb317) (o := .cells #[.string a1_0, .string a1_1] 27 (0, 0)) (by (with_reducible repeat (first | refine blk_drewN ?_ _ | refine blk_drew ?_ | refine blk_alloc ?_ _)); exact BK317.out) hb)
      have n4_ := Aside0.mk (below_step (by repeat (first | (with_reducible first | exact HB.out | apply below_alloc | apply pw_below_drewN | apply below_drew1 | refine below_set ?_ GE317.out) | exact HB.out)) hb)
      clear HO323
      clear HO326
      clear BK317
      clear HB
      have HO323 := n0_
      have HO326 := n1_
      have HO329 := n2_
      have BK317 := n3_
      have HB := n4_
      clear n0_ n1_ n2_ n3_ n4_
      (try clear hb)
      (try clear hb2)
      (try clear hk)
      (try clear hi)
      (try clear ho0)
      obtain ⟨Ao16, co16, eo16⟩ := Kd.R_slice HO326.out
      (first | subst eo16 | (injection eo16 with f1_ f2_ f3_; have f4_ := f1_.symm; have f5_ := f3_.symm; clear f1_ f2_ f3_; subst f4_; subst f5_))
      obtain ⟨Ao17, co17, eo17⟩ := Kd.R_slice HO329.out
      (first | subst eo17 | (injection eo17 with f1_ f2_ f3_; have f4_ := f1_.symm; have f5_ := f3_.symm; clear f1_ f2_ f3_; subst f4_; subst f5_))
      refine hK.out _ _ ⟨(blk_cell BK317.out 0).trans rfl, (blk_cell BK317.out 1).trans rfl⟩ (fun hHeld => ?_)
      clear hK K
      refine norm_ (a' := ?_) ?_ ?_
      rotate_left
      · show Act.put _ (some 16) _ = _
        simp only [Act.put, List.setIfInBounds_toArray, List.set_cons_zero, List.set_cons_succ, i64_w, i32_w]
        rfl
      refine one_ (i := 5) (N := some 17) #[true, true, true, true, true, true, false, true] rfl rfl (one_of HT_.out (by kernel_rfl)) (by decide) (fun K hK => ?_)
      refine event_step (v := .slice (some ⟨w15.heap.size, 0, none⟩) 2 2) (w1 := w15.alloc (.cells #[.slice Ao16 t324.length co16, .slice Ao17 t327.length co17] 36)) ?hg ?hr ?_; (case hg => rfl); (case hr => first | (go_simp; done) | (go_simp; rfl))
      have hb := Below.alloc (Below.refl w15.heap.size w15) (Nat.le_refl _) (.cells #[.slice Ao16 t324.length co16, .slice Ao17 t327.length co17] 36)
      have hlit := heap_alloc_new w15 (.cells #[.slice Ao16 t324.length co16, .slice Ao17 t327.length co17] 36)
      generalize w15.alloc (.cells #[.slice Ao16 t324.length co16, .slice Ao17 t327.length co17] 36) = w18 at hb hlit ⊢
      have hgl : w.heap.size ≤ w15.heap.size := (HB.out.size)
      have n0_ := Aside0.mk (Kd.R_below HO323.out hb)
      have n1_ := Aside0.mk (Kd.R_below HO326.out hb)
      have n2_ := Aside0.mk (Kd.R_below HO329.out hb)
      have n3_ := Aside0.mk (Below.block hb _ (blk_lt BK317.out) |>.trans BK317.out)
      have n4_ := Aside0.mk (below_step HB.out hb)
      have HLIT := Aside0.mk hlit
      clear HO323 HO326 HO329 BK317 HB hlit
      have HO323 := n0_
      have HO326 := n1_
      have HO329 := n2_
      have BK317 := n3_
      have HB := n4_
      clear n0_ n1_ n2_ n3_ n4_
      clear hb
      generalize w15.heap.size = gl at hgl HLIT ⊢
      refine hK.out _ _ ⟨(blk_cell BK317.out 0).trans rfl, (blk_cell BK317.out 1).trans rfl⟩ (fun hHeld => ?_)
      clear hK K
      refine norm_ (a' := ?_) ?_ ?_
      rotate_left
      · show Act.put _ (some 17) _ = _
        simp only [Act.put, List.setIfInBounds_toArray, List.set_cons_zero, List.set_cons_succ, i64_w, i32_w]
        rfl
      refine pure_ (i := 6) (N := some 18) (v := ?_) (a' := ?_) #[true, true, true, true, true, true, true, true] rfl rfl (any_of HT_.out (by kernel_rfl)) (fun _ _ _ h => h) (Or.inl ⟨by rfl, ?_⟩) ?_ ?_
      rotate_left
      · intro w'
        go_simp
        with_reducible rfl
      rotate_left
      · simp only [Act.put, List.setIfInBounds_toArray, List.set_cons_zero, List.set_cons_succ, i64_w, i32_w]
        rfl
      refine done_ (done_of HT_.out (by kernel_rfl)) ?_
      go_wp2
      go_loopg [19] 2 (fun gk v19 w' => ∃ (i : Nat) (us vs : List S27), v19 = .int .i64 i ∧ i ≤ 2 ∧ 2 - i ≤ gk ∧ us.length = t324.length ∧ vs.length = t327.length ∧ Aside0 (Kd.R k27 27 w' w.heap.size (fun k => (some k ≠ (.slice Ao16 t324.length co16 : Value).ownBlock ∧ some k ≠ (.slice Ao17 t327.length co17 : Value).ownBlock) ∧ k ≠ gb317) v322 y321) ∧ Aside0 (Kd.R k27 27 w' w.heap.size (fun k => (some k ≠ (v322 : Value).ownBlock ∧ some k ≠ (.slice Ao17 t327.length co17 : Value).ownBlock) ∧ k ≠ gb317) (.slice Ao16 t324.length co16) us) ∧ Aside0 (Kd.R k27 27 w' w.heap.size (fun k => (some k ≠ (v322 : Value).ownBlock ∧ some k ≠ (.slice Ao16 t324.length co16 : Value).ownBlock) ∧ k ≠ gb317) (.slice Ao17 t327.length co17) vs) ∧ Aside0 (w'.heap[gl]? = some (.cells #[.slice Ao16 t324.length co16, .slice Ao17 t327.length co17] 36 (0, 0))) ∧ Aside0 (w'.heap[gb317]? = some (.cells #[.string a1_0, .string a1_1] 27 (0, 0))) ∧ Aside0 (Below w.heap.size w w'))
      case atStart => exact ⟨0, t324, t327, rfl, by omega, by omega, rfl, rfl, ⟨Kd.R_mono (Kd.R_tight rfl HO323.out) (fun k hk => by have z_ := HO323.out.1 k hk.symm; (try simp only [true_and] at z_); refine ⟨⟨?_, ?_⟩, ?_⟩ <;> first | exact z_.1.1 | exact z_.1.2 | exact z_.2 | exact z_.1.1.1 | exact z_.1.1.2)⟩, ⟨Kd.R_mono (Kd.R_tight rfl HO326.out) (fun k hk => by have z_ := HO326.out.1 k hk.symm; (try simp only [true_and] at z_); refine ⟨⟨?_, ?_⟩, ?_⟩ <;> first | exact z_.1.1 | exact z_.1.2 | exact z_.2 | exact z_.1.1.1 | exact z_.1.1.2)⟩, ⟨Kd.R_mono (Kd.R_tight rfl HO329.out) (fun k hk => by have z_ := HO329.out.1 k hk.symm; (try simp only [true_and] at z_); refine ⟨⟨?_, ?_⟩, ?_⟩ <;> first | exact z_.1.1 | exact z_.1.2 | exact z_.2 | exact z_.1.1.1 | exact z_.1.1.2)⟩, HLIT, BK317, HB⟩
      case round =>
        clear HO323 HO326 HO329 BK317 HB HLIT
        obtain ⟨i, us, vs, rfl, hi2, hgk, hus, hvs, HO323, HO326, HO329, HLIT, BK317, HB⟩ := hrel
        have HGK := Aside0.mk hgk
        have HUS := Aside0.mk hus
        have HVS := Aside0.mk hvs
        clear hgk hus hvs
        rcases (show i = 0 ∨ i = 1 ∨ i = 2 by omega) with rfl | rfl | rfl
        · have hl0 : (wr : World).cell? ⟨gl, 0, none⟩ = some (.slice Ao16 t324.length co16) := (blk_cell HLIT.out 0).trans rfl
          have hfl := blk_frozen HLIT.out 0
          have hxl : t324.length ≤ 9223372036854775807 := by have h_ := Kd.C_max (Kd.R_reads' HO326.out).2.2; rw [HUS.out] at h_; exact h_
          have HXL := Aside0.mk hxl
          clear hxl
          go_wp2
          clear hl0 hfl
          go_loopg [25] t324.length (fun gk v25 w' => ∃ (n : Nat) (us vs : List S27), v25 = .int .i64 n ∧ n ≤ t324.length ∧ t324.length - n ≤ gk ∧ us.length = t324.length ∧ vs.length = t327.length ∧ Aside0 (Kd.R k27 27 w' w.heap.size (fun k => (some k ≠ (.slice Ao16 t324.length co16 : Value).ownBlock ∧ some k ≠ (.slice Ao17 t327.length co17 : Value).ownBlock) ∧ k ≠ gb317) v322 y321) ∧ Aside0 (Kd.R k27 27 w' w.heap.size (fun k => (some k ≠ (v322 : Value).ownBlock ∧ some k ≠ (.slice Ao17 t327.length co17 : Value).ownBlock) ∧ k ≠ gb317) (.slice Ao16 t324.length co16) us) ∧ Aside0 (Kd.R k27 27 w' w.heap.size (fun k => (some k ≠ (v322 : Value).ownBlock ∧ some k ≠ (.slice Ao16 t324.length co16 : Value).ownBlock) ∧ k ≠ gb317) (.slice Ao17 t327.length co17) vs) ∧ Aside0 (w'.heap[gl]? = some (.cells #[.slice Ao16 t324.length co16, .slice Ao17 t327.length co17] 36 (0, 0))) ∧ Aside0 (w'.heap[gb317]? = some (.cells #[.string a1_0, .string a1_1] 27 (0, 0))) ∧ Aside0 (Below w.heap.size w w'))
          case atStart => exact ⟨0, us, vs, rfl, Nat.zero_le _, by omega, HUS.out, HVS.out, HO323, HO326, HO329, HLIT, BK317, HB⟩
          case round =>
            clear HO323 HO326 HO329 BK317 HB HLIT HUS HVS
            clear us vs
            obtain ⟨n, us, vs, rfl, hnl, hgn, hus, hvs, HO323, HO326, HO329, HLIT, BK317, HB⟩ := hrel
            have HGN := Aside0.mk hgn
            have HUS := Aside0.mk hus
            have HVS := Aside0.mk hvs
            clear hgn hus hvs
            by_cases hnt : n < t324.length
            · have hntz : (n : Int) < (t324.length : Int) := by omega
              obtain ⟨gu, cap_, he, hbg, hlg, _⟩ := Kd.R_form HO326.out (by have h_ := HUS.out; omega)
              injection he with he1 he2 he3
              subst he1; subst he3
              clear he2
              obtain ⟨ce, hcl, hM, hcc, hfr⟩ := Kd.R_elem HO326.out z27 (n : Int) (by omega) hntz
              have HSG := Aside0.mk (Kd.R_seg (j := 0) (seg := [.string (⟨#[115, 112, 111, 105, 108, 116]⟩ : ByteArray)]) HO326.out (n : Int) (by omega) hntz hcl hcc (by decide) (x' := (⟨⟨#[115, 112, 111, 105, 108, 116]⟩, (us.getD (n : Int).toNat z27).f1⟩ : S27)) (okp := fun k => ((some k ≠ (v322 : Value).ownBlock ∧ some k ≠ (.slice Ao17 t327.length co17 : Value).ownBlock) ∧ k ≠ gb317) ∧ k ≠ gu) (by rw [k27_openM hM]; exact k27_mkM _ _ _ _) (fun k hk => hk))
              obtain rfl := k27_openM hM
              rw [Int.toNat_natCast] at hcc hfr
              have hx_0 := hcc 0 _ rfl
              have hf_0 := hfr 0
              simp only [show k27.sz = 2 from rfl, Nat.add_zero] at hx_0 hf_0
              clear hcl hM hcc hfr
              go_wp2
              have hsg := HSG.out
              rw [Int.toNat_natCast, show k27.sz = 2 from rfl, Nat.add_zero] at hsg
              clear HSG hx_0 hf_0
              go_roundg (t324.length - (n + 1))
              case measure => have := HGN.out; omega
              case rel =>
                exact ⟨n + 1, _, vs, by have h_ := HXL.out; rw [Go.IntWalk.wrap64_in _ (by omega)]; rfl, by omega, Nat.le_refl _, by rw [List.length_set]; exact HUS.out, HVS.out, ⟨Kd.R_grown HO323.out hsg.2 (fun k hk => hk.1.1)⟩, ⟨hsg.1⟩, ⟨Kd.R_grown HO329.out hsg.2 (fun k hk => hk.1.2)⟩, ⟨blk_grown HLIT.out hsg.2 (Kd.R_ne HO326.out HLIT.out (by decide))⟩, ⟨blk_grown BK317.out hsg.2 (Kd.R_away HO326.out (fun k hk => hk.2))⟩, ⟨Below.setCell HB.out hbg _⟩⟩
            · have hntz : ¬ (n : Int) < (t324.length : Int) := by omega
              go_wp2
              go_roundg (2 - (0 + 1))
              case measure => have := HGK.out; omega
              case rel => exact ⟨1, us, vs, by go_num, by omega, by omega, HUS.out, HVS.out, HO323, HO326, HO329, HLIT, BK317, HB⟩
        · have hl0 : (wr : World).cell? ⟨gl, 1, none⟩ = some (.slice Ao17 t327.length co17) := (blk_cell HLIT.out 1).trans rfl
          have hfl := blk_frozen HLIT.out 1
          have hxl : t327.length ≤ 9223372036854775807 := by have h_ := Kd.C_max (Kd.R_reads' HO329.out).2.2; rw [HVS.out] at h_; exact h_
          have HXL := Aside0.mk hxl
          clear hxl
          go_wp2
          clear hl0 hfl
          go_loopg [25] t327.length (fun gk v25 w' => ∃ (n : Nat) (us vs : List S27), v25 = .int .i64 n ∧ n ≤ t327.length ∧ t327.length - n ≤ gk ∧ us.length = t324.length ∧ vs.length = t327.length ∧ Aside0 (Kd.R k27 27 w' w.heap.size (fun k => (some k ≠ (.slice Ao16 t324.length co16 : Value).ownBlock ∧ some k ≠ (.slice Ao17 t327.length co17 : Value).ownBlock) ∧ k ≠ gb317) v322 y321) ∧ Aside0 (Kd.R k27 27 w' w.heap.size (fun k => (some k ≠ (v322 : Value).ownBlock ∧ some k ≠ (.slice Ao17 t327.length co17 : Value).ownBlock) ∧ k ≠ gb317) (.slice Ao16 t324.length co16) us) ∧ Aside0 (Kd.R k27 27 w' w.heap.size (fun k => (some k ≠ (v322 : Value).ownBlock ∧ some k ≠ (.slice Ao16 t324.length co16 : Value).ownBlock) ∧ k ≠ gb317) (.slice Ao17 t327.length co17) vs) ∧ Aside0 (w'.heap[gl]? = some (.cells #[.slice Ao16 t324.length co16, .slice Ao17 t327.length co17] 36 (0, 0))) ∧ Aside0 (w'.heap[gb317]? = some (.cells #[.string a1_0, .string a1_1] 27 (0, 0))) ∧ Aside0 (Below w.heap.size w w'))
          case atStart => exact ⟨0, us, vs, rfl, Nat.zero_le _, by omega, HUS.out, HVS.out, HO323, HO326, HO329, HLIT, BK317, HB⟩
          case round =>
            clear HO323 HO326 HO329 BK317 HB HLIT HUS HVS
            clear us vs
            obtain ⟨n, us, vs, rfl, hnl, hgn, hus, hvs, HO323, HO326, HO329, HLIT, BK317, HB⟩ := hrel
            have HGN := Aside0.mk hgn
            have HUS := Aside0.mk hus
            have HVS := Aside0.mk hvs
            clear hgn hus hvs
            by_cases hnt : n < t327.length
            · have hntz : (n : Int) < (t327.length : Int) := by omega
              obtain ⟨gu, cap_, he, hbg, hlg, _⟩ := Kd.R_form HO329.out (by have h_ := HVS.out; omega)
              injection he with he1 he2 he3
              subst he1; subst he3
              clear he2
              obtain ⟨ce, hcl, hM, hcc, hfr⟩ := Kd.R_elem HO329.out z27 (n : Int) (by omega) hntz
              have HSG := Aside0.mk (Kd.R_seg (j := 0) (seg := [.string (⟨#[115, 112, 111, 105, 108, 116]⟩ : ByteArray)]) HO329.out (n : Int) (by omega) hntz hcl hcc (by decide) (x' := (⟨⟨#[115, 112, 111, 105, 108, 116]⟩, (vs.getD (n : Int).toNat z27).f1⟩ : S27)) (okp := fun k => ((some k ≠ (v322 : Value).ownBlock ∧ some k ≠ (.slice Ao16 t324.length co16 : Value).ownBlock) ∧ k ≠ gb317) ∧ k ≠ gu) (by rw [k27_openM hM]; exact k27_mkM _ _ _ _) (fun k hk => hk))
              obtain rfl := k27_openM hM
              rw [Int.toNat_natCast] at hcc hfr
              have hx_0 := hcc 0 _ rfl
              have hf_0 := hfr 0
              simp only [show k27.sz = 2 from rfl, Nat.add_zero] at hx_0 hf_0
              clear hcl hM hcc hfr
              go_wp2
              have hsg := HSG.out
              rw [Int.toNat_natCast, show k27.sz = 2 from rfl, Nat.add_zero] at hsg
              clear HSG hx_0 hf_0
              go_roundg (t327.length - (n + 1))
              case measure => have := HGN.out; omega
              case rel =>
                exact ⟨n + 1, us, _, by have h_ := HXL.out; rw [Go.IntWalk.wrap64_in _ (by omega)]; rfl, by omega, Nat.le_refl _, HUS.out, by rw [List.length_set]; exact HVS.out, ⟨Kd.R_grown HO323.out hsg.2 (fun k hk => hk.1.2)⟩, ⟨Kd.R_grown HO326.out hsg.2 (fun k hk => hk.1.2)⟩, ⟨hsg.1⟩, ⟨blk_grown HLIT.out hsg.2 (Kd.R_ne HO329.out HLIT.out (by decide))⟩, ⟨blk_grown BK317.out hsg.2 (Kd.R_away HO329.out (fun k hk => hk.2))⟩, ⟨Below.setCell HB.out hbg _⟩⟩
            · have hntz : ¬ (n : Int) < (t327.length : Int) := by omega
              go_wp2
              go_roundg (2 - (1 + 1))
              case measure => have := HGK.out; omega
              case rel => exact ⟨2, us, vs, by go_num, by omega, by omega, HUS.out, HVS.out, HO323, HO326, HO329, HLIT, BK317, HB⟩
        · try go_wp2_with (first | ((with_reducible refine gate_callee (f := 13) rfl ?_); refine goesL_ (some 34) rfl rfl Try.func13 (by kernel_rfl) rfl #[] rfl (by (try simp only [List.map_toArray, List.map_cons, List.map_nil]); first | done | rfl | (simp only [List.length_drop, List.length_take]; rfl)) ?_; (with_reducible refine (cressetlaw05_live.calls k  true _ A6.out).mono ?_); rintro e w21 ⟨rfl, hb⟩; refine ⟨_, rfl, ?_⟩; have n0_ := Aside0.mk (Kd.R_below (by (with_reducible repeat (first | apply Kd.R_alloc | apply Kd.R_drewN | apply Kd.R_drew)); exact HO323.out) hb); have n2_ := Aside0.mk (blk_below (g := gb317) (o := .cells #[.string a1_0, .string a1_1] 27 (0, 0)) (by (with_reducible repeat (first | refine blk_drewN ?_ _ | refine blk_drew ?_ | refine blk_alloc ?_ _)); exact BK317.out) hb); have n3_ := Aside0.mk (below_step (by repeat (first | (with_reducible first | exact HB.out | apply below_alloc | apply pw_below_drewN | apply below_drew1 | refine below_set ?_ GE317.out) | exact HB.out)) hb); clear HO323; clear BK317; clear HB; have HO323 := n0_; have BK317 := n2_; have HB := n3_; clear n0_  n2_ n3_; (try clear hb); (try clear hb2); (try clear hk); (try clear hi); obtain ⟨Ao22, co22, eo22⟩ := Kd.R_slice HO323.out; subst eo22) | (go_at_call 31; (with_reducible refine (cressetref05_Same.calls k _ _ l0 _ _ y321 t334 _ ?side1 ?side2 ?side3 ?side4 A8.out).mono ?_); (case side1 => repeat (first | exact (Kd.C_below HR0.out HB.out) | (with_reducible refine Kd.C_alloc ?_ _) | (with_reducible refine Kd.C_drewN ?_ _) | (with_reducible refine Kd.C_drew ?_))); (case side2 => exact HC0.out); (case side3 => repeat (first | exact (Kd.R_reads' HO323.out).2.2 | (with_reducible refine Kd.C_alloc ?_ _) | (with_reducible refine Kd.C_drewN ?_ _) | (with_reducible refine Kd.C_drew ?_))); (case side4 => exact (Kd.R_reads' HO323.out).2.1); rintro e w' ⟨rfl, ⟨nd, rfl⟩⟩))
          go_ret
          exact ⟨by first | exact congrArg (fun b_ => Ending.returned (.bool b_)) HRT.out | exact congrArg (fun b_ => Ending.returned (.bool b_)) (by simpa using HRT.out) | rfl | (simp [errW_none, errW_some] <;> rfl) | (simp [*, errW_none, errW_some] <;> rfl), by repeat (first | (with_reducible first | exact HB.out | apply below_alloc | apply pw_below_drewN | apply below_drew1 | refine below_set ?_ GE317.out) | exact HB.out)⟩
    · replace c7 := Bool.eq_false_iff.mpr c7
      subst c7
      have H1 : (some false) = some true := by rw [if_neg (show ¬ (false = true) by decide)] at H; first | done | exact H
      clear H
      have H := H1
      clear H1
      exact absurd H (by simp)
  · rw [if_neg c3] at H
    exact absurd H (by simp)

/-- THE ONE PURE STATEMENT of cressetlaw05_KeysOwn: yours. -/
def cressetlaw05_KeysOwn.Pure : Prop := ∀ (l0 : List (S27)) (a1_0 : ByteArray) (a1_1 : ByteArray), (l0.length ≤ maxLen ∧ l0.length * 32 ≤ 140737488351232 ∧ ∀ x_ ∈ l0, ok27 x_) → a1_0.size ≤ 140737488351232 → a1_1.size ≤ 140737488351232 → (((l0.map bulk27).sum + 1)) + ((((a1_0.size + 1)) + ((a1_1.size + 1))) + 1) ≤ 1048576 → ∃ k, cressetlaw05_KeysOwn.f k l0 a1_0 a1_1 = some true
theorem cressetlaw05_KeysOwn.walk (P : cressetlaw05_KeysOwn.Pure) (A0 : Option Addr) (c0 : Nat) (l0 : List (S27)) (a1_0 : ByteArray) (a1_1 : ByteArray) (w : World) (hr0 : Kd.C k27 w A0 l0.length l0) (hc0 : l0.length ≤ c0) (w0 : (l0.length ≤ maxLen ∧ l0.length * 32 ≤ 140737488351232 ∧ ∀ x_ ∈ l0, ok27 x_)) (w1_0 : a1_0.size ≤ 140737488351232) (w1_1 : a1_1.size ≤ 140737488351232) (hU : (((l0.map bulk27).sum + 1)) + ((((a1_0.size + 1)) + ((a1_1.size + 1))) + 1) ≤ 1048576) :
    Calls Try.prog 8 #[.slice A0 l0.length c0, .agg #[.string a1_0, .string a1_1]] w fun e w' => e = .returned (.bool true) ∧ Below w.heap.size w w' := by
  obtain ⟨k, h⟩ := P l0 a1_0 a1_1 w0 w1_0 w1_1 hU
  refine (cressetlaw05_KeysOwn.calls k A0 c0 l0 a1_0 a1_1 w hr0 hc0 h).mono ?_
  rintro e w' ⟨rfl, hd⟩
  exact ⟨rfl, hd⟩

end Go.Proofs.Ytmgbmnjjkcljhaa.B

-- Written by a program of this session (wip/print2) out of Lean's print of the translation. Not trusted: Lean checks it.
import Derived.Test.YtmgbmnjjkcljhaaBx0
import Derived.Test.YtmgbmnjjkcljhaaBx2
namespace Go.Proofs.Ytmgbmnjjkcljhaa.B
open Go.RowKit Go.Proofs.YtmgbmnjjkcljhaaW.PrintWords Go.Proofs.YtmgbmnjjkcljhaaW.PrintLast Go.Proofs.YtmgbmnjjkcljhaaW.PrintMore Go.Proofs.YtmgbmnjjkcljhaaW.Mine
attribute [local go_sem] max2_int min2_int max_two min_two max_three min_three max_four min_four str_gtr str_leq str_geq str_max str_min   -- for this text's walks alone
set_option linter.unusedVariables false
set_option linter.unusedSimpArgs false

/-! ### cressetlaw05_KeysParts: function 3 -/
def cressetlaw05_KeysParts.f (k : Nat) (a0 : ByteArray) (a1 : ByteArray) : Option (Bool) := (keys_Separator.f k a0 a1).bind fun bt113 => ((cressetref05_Separator.f k a0 a1).bind fun bt115 => ((cressetlaw05_live.f k).bind fun t117 => (if t117 = true then (if (bt113.2 != bt115.2) = true then (some false) else (if bt113.1.toList = bt115.1.toList then (if bt113.2 = true then (if (Op.bytesLess a0.toList bt113.1.toList) = true then (if ((Op.bytesLess a1.toList bt113.1.toList) = true) then (some false) else (if (bt113.1.size : Int) ≤ (a1.size : Int) then (if 0 ≤ (bt113.1.size : Int) then (some ((a1.extract 0 ((bt113.1.size : Int) : Int).toNat).toList == bt113.1.toList)) else (none)) else (some false))) else (some false)) else (some true)) else (some false))) else (some false))))
theorem cressetlaw05_KeysParts.mono : ∀ a0 a1 k, LeO (cressetlaw05_KeysParts.f k a0 a1) (cressetlaw05_KeysParts.f (k + 1) a0 a1) := by
  intro a0 a1 k
  unfold cressetlaw05_KeysParts.f
  repeat' first
      | (with_reducible exact cressetlaw05_live.mono _)
      | (with_reducible exact cressetref05_Separator.mono _ _ _)
      | (with_reducible exact keys_Separator.mono _ _ _)
      | (with_reducible exact LeO.refl _)
      | (with_reducible exact LeO.none _)
      | (with_reducible refine LeO.ite ?_ ?_)
      | (with_reducible refine LeO.bind ?_ (fun _ => ?_))
      | exact cressetlaw05_live.mono _
      | exact cressetref05_Separator.mono _ _ _
      | exact keys_Separator.mono _ _ _
      | exact LeO.none _
      | refine LeO.ite ?_ ?_
      | refine LeO.bind ?_ (fun _ => ?_)
set_option maxHeartbeats 8000000 in
set_option maxRecDepth 100000 in
theorem cressetlaw05_KeysParts.calls (k : Nat) (a0 : ByteArray) (a1 : ByteArray) (w : World) (h : cressetlaw05_KeysParts.f k a0 a1 = some true) :
    Calls Try.prog 3 #[.string a0, .string a1] w fun e w' => e = .returned (.bool true) ∧ Below w.heap.size w w' := by
  have HB := Aside0.mk (Below.refl w.heap.size w)
  have H : ((keys_Separator.f k a0 a1).bind fun bt113 => ((cressetref05_Separator.f k a0 a1).bind fun bt115 => ((cressetlaw05_live.f k).bind fun t117 => (if t117 = true then (if (bt113.2 != bt115.2) = true then (some false) else (if bt113.1.toList = bt115.1.toList then (if bt113.2 = true then (if (Op.bytesLess a0.toList bt113.1.toList) = true then (if ((Op.bytesLess a1.toList bt113.1.toList) = true) then (some false) else (if (bt113.1.size : Int) ≤ (a1.size : Int) then (if 0 ≤ (bt113.1.size : Int) then (some ((a1.extract 0 ((bt113.1.size : Int) : Int).toNat).toList == bt113.1.toList)) else (none)) else (some false))) else (some false)) else (some true)) else (some false))) else (some false))))) = some true := h
  clear h
  replace H := Option.bind_eq_some_iff.mp H
  obtain ⟨⟨t113, t114⟩, A30, H⟩ := H
  replace H : ((cressetref05_Separator.f k a0 a1).bind fun bt115 => ((cressetlaw05_live.f k).bind fun t117 => (if t117 = true then (if (t114 != bt115.2) = true then (some false) else (if t113.toList = bt115.1.toList then (if t114 = true then (if (Op.bytesLess a0.toList t113.toList) = true then (if ((Op.bytesLess a1.toList t113.toList) = true) then (some false) else (if (t113.size : Int) ≤ (a1.size : Int) then (if 0 ≤ (t113.size : Int) then (some ((a1.extract 0 ((t113.size : Int) : Int).toNat).toList == t113.toList)) else (none)) else (some false))) else (some false)) else (some true)) else (some false))) else (some false)))) = some true := H
  have A3 := Aside0.mk A30
  clear A30
  replace H := Option.bind_eq_some_iff.mp H
  obtain ⟨⟨t115, t116⟩, A40, H⟩ := H
  replace H : ((cressetlaw05_live.f k).bind fun t117 => (if t117 = true then (if (t114 != t116) = true then (some false) else (if t113.toList = t115.toList then (if t114 = true then (if (Op.bytesLess a0.toList t113.toList) = true then (if ((Op.bytesLess a1.toList t113.toList) = true) then (some false) else (if (t113.size : Int) ≤ (a1.size : Int) then (if 0 ≤ (t113.size : Int) then (some ((a1.extract 0 ((t113.size : Int) : Int).toNat).toList == t113.toList)) else (none)) else (some false))) else (some false)) else (some true)) else (some false))) else (some false))) = some true := H
  have A4 := Aside0.mk A40
  clear A40
  replace H := Option.bind_eq_some_iff.mp H
  obtain ⟨t117, A50, H⟩ := H
  replace H : (if t117 = true then (if (t114 != t116) = true then (some false) else (if t113.toList = t115.toList then (if t114 = true then (if (Op.bytesLess a0.toList t113.toList) = true then (if ((Op.bytesLess a1.toList t113.toList) = true) then (some false) else (if (t113.size : Int) ≤ (a1.size : Int) then (if 0 ≤ (t113.size : Int) then (some ((a1.extract 0 ((t113.size : Int) : Int).toNat).toList == t113.toList)) else (none)) else (some false))) else (some false)) else (some true)) else (some false))) else (some false)) = some true := H
  have A5 := Aside0.mk A50
  clear A50
  by_cases c6 : t117 = true
  · subst c6
    have H1 : (if (t114 != t116) = true then (some false) else (if t113.toList = t115.toList then (if t114 = true then (if (Op.bytesLess a0.toList t113.toList) = true then (if ((Op.bytesLess a1.toList t113.toList) = true) then (some false) else (if (t113.size : Int) ≤ (a1.size : Int) then (if 0 ≤ (t113.size : Int) then (some ((a1.extract 0 ((t113.size : Int) : Int).toNat).toList == t113.toList)) else (none)) else (some false))) else (some false)) else (some true)) else (some false))) = some true := by rw [if_pos rfl] at H; first | done | exact H
    clear H
    have H := H1
    clear H1
    by_cases c7 : (t114 != t116) = true
    · rw [if_pos c7] at H
      have c7b0 : (t114 != t116) = true := c7
      (try (have c7b1 : decide (t114 = t116) = false := by simpa using c7))
      (try (have c7b2 : (t114 == t116) = false := by simpa using c7))
      (try (have c7b3 : ¬ (t114 = t116) := by simpa using c7))
      clear c7
      exact absurd H (by simp)
    · rw [if_neg c7] at H
      have c7b0 : (t114 != t116) = false := by simpa using c7
      (try (have c7b1 : decide (t114 = t116) = true := by simpa using c7))
      (try (have c7b2 : (t114 == t116) = true := by simpa using c7))
      clear c7
      by_cases c8 : t113.toList = t115.toList
      · rw [if_pos c8] at H
        have c8b0 : (t113.toList == t115.toList) = true := beq_iff_eq.mpr c8
        have c8b1 : (t113.toList != t115.toList) = false := bne_eq_false_iff_eq.mpr c8
        clear c8
        by_cases c9 : t114 = true
        · subst c9
          have H1 : (if (Op.bytesLess a0.toList t113.toList) = true then (if ((Op.bytesLess a1.toList t113.toList) = true) then (some false) else (if (t113.size : Int) ≤ (a1.size : Int) then (if 0 ≤ (t113.size : Int) then (some ((a1.extract 0 ((t113.size : Int) : Int).toNat).toList == t113.toList)) else (none)) else (some false))) else (some false)) = some true := by rw [if_pos rfl] at H; first | done | exact H
          clear H
          have H := H1
          clear H1
          by_cases c10 : (Op.bytesLess a0.toList t113.toList) = true
          · rw [if_pos c10] at H
            have c10b0 : (Op.bytesLess a0.toList t113.toList) = true := c10
            clear c10
            by_cases c11 : ((Op.bytesLess a1.toList t113.toList) = true)
            · rw [if_pos c11] at H
              have c11b0 : (Op.bytesLess a1.toList t113.toList) = true := c11
              clear c11
              exact absurd H (by simp)
            · rw [if_neg c11] at H
              have c11b0 : (Op.bytesLess a1.toList t113.toList) = false := by simpa using c11
              clear c11
              by_cases c12 : (t113.size : Int) ≤ (a1.size : Int)
              · rw [if_pos c12] at H
                have c12b0 : decide ((t113.size : Int) ≤ (a1.size : Int)) = true := decide_eq_true c12
                have c12b1 : decide (t113.size ≤ a1.size) = true := decide_eq_true (Int.ofNat_le.mp c12)
                clear c12
                by_cases c13 : 0 ≤ (t113.size : Int)
                · rw [if_pos c13] at H
                  have c13b0 := eq_true c13
                  have c13b1 : decide (0 ≤ (t113.size : Int)) = true := decide_eq_true c13
                  clear c13
                  have c14b0 := eq_true (of_decide_eq_true (by first | (with_reducible assumption) | assumption) : (t113.size : Int) ≤ (a1.size : Int))
                  have HRT := Aside0.mk (Option.some.inj H)
                  clear H
                  go_enter Try.func3, Try.ntmps3
                  go_wp2_with (first | ((with_reducible refine gate_callee (f := 11) rfl ?_); refine goesL_ (some 12) rfl rfl Try.func11 (by kernel_rfl) rfl #[.string a0, .string a1] rfl (by (try simp only [List.map_toArray, List.map_cons, List.map_nil]); first | done | rfl | (simp only [List.length_drop, List.length_take]; rfl)) ?_; (with_reducible refine (keys_Separator.calls k a0 a1 t113 true _ A3.out).mono ?_); rintro e w' ⟨rfl, ⟨nd, rfl⟩⟩; refine ⟨_, rfl, ?_⟩) | ((with_reducible refine gate_callee (f := 12) rfl ?_); refine goesL_ (some 18) rfl rfl Try.func12 (by kernel_rfl) rfl #[.string a0, .string a1] rfl (by (try simp only [List.map_toArray, List.map_cons, List.map_nil]); first | done | rfl | (simp only [List.length_drop, List.length_take]; rfl)) ?_; (with_reducible refine (cressetref05_Separator.calls k a0 a1 t115 t116 _ A4.out).mono ?_); rintro e w' ⟨rfl, ⟨nd, rfl⟩⟩; refine ⟨_, rfl, ?_⟩) | ((with_reducible refine gate_callee (f := 13) rfl ?_); refine goesL_ (some 21) rfl rfl Try.func13 (by kernel_rfl) rfl #[] rfl (by (try simp only [List.map_toArray, List.map_cons, List.map_nil]); first | done | rfl | (simp only [List.length_drop, List.length_take]; rfl)) ?_; (with_reducible refine (cressetlaw05_live.calls k  true _ A5.out).mono ?_); rintro e w15 ⟨rfl, hb⟩; refine ⟨_, rfl, ?_⟩; have n0_ := Aside0.mk (below_step (by repeat (first | (with_reducible first | exact HB.out | apply below_alloc | apply pw_below_drewN | apply below_drew1) | exact HB.out)) hb); clear HB; have HB := n0_; clear n0_; (try clear hb); (try clear hb2); (try clear hk); (try clear hi)))
                  go_ret
                  exact ⟨by first | exact congrArg (fun b_ => Ending.returned (.bool b_)) HRT.out | rfl | (simp [errW_none, errW_some] <;> rfl) | (simp [*, errW_none, errW_some] <;> rfl), by repeat (first | (with_reducible first | exact HB.out | apply below_alloc | apply pw_below_drewN | apply below_drew1) | exact HB.out)⟩
                · rw [if_neg c13] at H
                  exact absurd H (by simp)
              · rw [if_neg c12] at H
                have c12b0 : decide ((t113.size : Int) ≤ (a1.size : Int)) = false := decide_eq_false c12
                have c12b1 : decide (t113.size ≤ a1.size) = false := decide_eq_false (fun h => c12 (Int.ofNat_le.mpr h))
                clear c12
                exact absurd H (by simp)
          · rw [if_neg c10] at H
            have c10b0 : (Op.bytesLess a0.toList t113.toList) = false := by simpa using c10
            clear c10
            exact absurd H (by simp)
        · replace c9 := Bool.eq_false_iff.mpr c9
          subst c9
          have H1 : (some true) = some true := by rw [if_neg (show ¬ (false = true) by decide)] at H; first | done | exact H
          clear H
          have H := H1
          clear H1
          clear H
          go_enter Try.func3, Try.ntmps3
          go_wp2_with (first | ((with_reducible refine gate_callee (f := 11) rfl ?_); refine goesL_ (some 12) rfl rfl Try.func11 (by kernel_rfl) rfl #[.string a0, .string a1] rfl (by (try simp only [List.map_toArray, List.map_cons, List.map_nil]); first | done | rfl | (simp only [List.length_drop, List.length_take]; rfl)) ?_; (with_reducible refine (keys_Separator.calls k a0 a1 t113 false _ A3.out).mono ?_); rintro e w' ⟨rfl, ⟨nd, rfl⟩⟩; refine ⟨_, rfl, ?_⟩) | ((with_reducible refine gate_callee (f := 12) rfl ?_); refine goesL_ (some 18) rfl rfl Try.func12 (by kernel_rfl) rfl #[.string a0, .string a1] rfl (by (try simp only [List.map_toArray, List.map_cons, List.map_nil]); first | done | rfl | (simp only [List.length_drop, List.length_take]; rfl)) ?_; (with_reducible refine (cressetref05_Separator.calls k a0 a1 t115 t116 _ A4.out).mono ?_); rintro e w' ⟨rfl, ⟨nd, rfl⟩⟩; refine ⟨_, rfl, ?_⟩) | ((with_reducible refine gate_callee (f := 13) rfl ?_); refine goesL_ (some 21) rfl rfl Try.func13 (by kernel_rfl) rfl #[] rfl (by (try simp only [List.map_toArray, List.map_cons, List.map_nil]); first | done | rfl | (simp only [List.length_drop, List.length_take]; rfl)) ?_; (with_reducible refine (cressetlaw05_live.calls k  true _ A5.out).mono ?_); rintro e w16 ⟨rfl, hb⟩; refine ⟨_, rfl, ?_⟩; have n0_ := Aside0.mk (below_step (by repeat (first | (with_reducible first | exact HB.out | apply below_alloc | apply pw_below_drewN | apply below_drew1) | exact HB.out)) hb); clear HB; have HB := n0_; clear n0_; (try clear hb); (try clear hb2); (try clear hk); (try clear hi)))
          go_ret
          exact ⟨by first | rfl | (simp [errW_none, errW_some] <;> rfl) | (simp [*, errW_none, errW_some] <;> rfl), by repeat (first | (with_reducible first | exact HB.out | apply below_alloc | apply pw_below_drewN | apply below_drew1) | exact HB.out)⟩
      · rw [if_neg c8] at H
        have c8b0 : (t113.toList == t115.toList) = false := beq_eq_false_iff_ne.mpr c8
        have c8b1 : (t113.toList != t115.toList) = true := bne_iff_ne.mpr c8
        exact absurd H (by simp)
  · replace c6 := Bool.eq_false_iff.mpr c6
    subst c6
    have H1 : (some false) = some true := by rw [if_neg (show ¬ (false = true) by decide)] at H; first | done | exact H
    clear H
    have H := H1
    clear H1
    exact absurd H (by simp)

/-- THE ONE PURE STATEMENT of cressetlaw05_KeysParts: yours. -/
def cressetlaw05_KeysParts.Pure : Prop := ∀ (a0 : ByteArray) (a1 : ByteArray), a0.size ≤ 140737488351232 → a1.size ≤ 140737488351232 → ∃ k, cressetlaw05_KeysParts.f k a0 a1 = some true
theorem cressetlaw05_KeysParts.walk (P : cressetlaw05_KeysParts.Pure) (a0 : ByteArray) (a1 : ByteArray) (w : World)  (w0 : a0.size ≤ 140737488351232) (w1 : a1.size ≤ 140737488351232) :
    Calls Try.prog 3 #[.string a0, .string a1] w fun e w' => e = .returned (.bool true) ∧ Below w.heap.size w w' := by
  obtain ⟨k, h⟩ := P a0 a1 w0 w1
  refine (cressetlaw05_KeysParts.calls k a0 a1 w h).mono ?_
  rintro e w' ⟨rfl, hd⟩
  exact ⟨rfl, hd⟩

end Go.Proofs.Ytmgbmnjjkcljhaa.B

-- Written by a program of this session (wip/print2) out of Lean's print of the translation. Not trusted: Lean checks it.
import Derived.Test.YtmgbmnjjkcljhaaBx0
import Derived.Test.YtmgbmnjjkcljhaaBx1
import Derived.Test.YtmgbmnjjkcljhaaBx2
import Derived.Test.YtmgbmnjjkcljhaaBx5
namespace Go.Proofs.Ytmgbmnjjkcljhaa.B
open Go.RowKit Go.Proofs.YtmgbmnjjkcljhaaW.PrintWords Go.Proofs.YtmgbmnjjkcljhaaW.PrintLast Go.Proofs.YtmgbmnjjkcljhaaW.PrintMore Go.Proofs.YtmgbmnjjkcljhaaW.Mine
attribute [local go_sem] max2_int min2_int max_two min_two max_three min_three max_four min_four str_gtr str_leq str_geq str_max str_min   -- for this text's walks alone
set_option linter.unusedVariables false
set_option linter.unusedSimpArgs false

attribute [local go_sem high] eqA27
/-! ### cressetlaw05_live: function 13 -/
def cressetlaw05_live.f (k : Nat)  : Option (Bool) := (keys_Separator.f k (⟨#[97, 98, 99]⟩ : ByteArray) (⟨#[98]⟩ : ByteArray)).bind fun bt107 => (if bt107.2 = true then (if bt107.1.toList = ([98] : List UInt8) then ((keys_Next.f (⟨#[97]⟩ : ByteArray)).bind fun t109 => (if t109.toList = ([97, 0] : List UInt8) then ((keys_In.f (⟨#[97]⟩ : ByteArray) (⟨#[]⟩ : ByteArray) (⟨#[98]⟩ : ByteArray)).bind fun t110 => (if t110 = true then ((keys_Prefix.f k (⟨#[97]⟩ : ByteArray)).bind fun bt111 => (some (bt111.1.toList == ([97] : List UInt8) && (bt111.2.toList == ([98] : List UInt8))))) else (some false))) else (some false))) else (some false)) else (some false))
theorem cressetlaw05_live.mono : ∀ k, LeO (cressetlaw05_live.f k ) (cressetlaw05_live.f (k + 1) ) := by
  intro  k
  unfold cressetlaw05_live.f
  repeat' first
      | (with_reducible exact keys_Prefix.mono _ _)
      | (with_reducible exact keys_Separator.mono _ _ _)
      | (with_reducible exact LeO.refl _)
      | (with_reducible exact LeO.none _)
      | (with_reducible refine LeO.ite ?_ ?_)
      | (with_reducible refine LeO.bind ?_ (fun _ => ?_))
      | exact keys_Prefix.mono _ _
      | exact keys_Separator.mono _ _ _
      | exact LeO.none _
      | refine LeO.ite ?_ ?_
      | refine LeO.bind ?_ (fun _ => ?_)
set_option maxHeartbeats 8000000 in
set_option maxRecDepth 100000 in
theorem cressetlaw05_live.calls (k : Nat)  (r : Bool) (w : World) (h : cressetlaw05_live.f k  = some r) :
    Calls Try.prog 13 #[] w fun e w' => e = .returned (.bool r) ∧ Below w.heap.size w w' := by
 have hu27 := Try.underlying27
 have HB := Aside0.mk (Below.refl w.heap.size w)
 have H : ((keys_Separator.f k (⟨#[97, 98, 99]⟩ : ByteArray) (⟨#[98]⟩ : ByteArray)).bind fun bt107 => (if bt107.2 = true then (if bt107.1.toList = ([98] : List UInt8) then ((keys_Next.f (⟨#[97]⟩ : ByteArray)).bind fun t109 => (if t109.toList = ([97, 0] : List UInt8) then ((keys_In.f (⟨#[97]⟩ : ByteArray) (⟨#[]⟩ : ByteArray) (⟨#[98]⟩ : ByteArray)).bind fun t110 => (if t110 = true then ((keys_Prefix.f k (⟨#[97]⟩ : ByteArray)).bind fun bt111 => (some (bt111.1.toList == ([97] : List UInt8) && (bt111.2.toList == ([98] : List UInt8))))) else (some false))) else (some false))) else (some false)) else (some false))) = some r := h
 clear h
 replace H := Option.bind_eq_some_iff.mp H
 obtain ⟨⟨t107, t108⟩, A10, H⟩ := H
 replace H : (if t108 = true then (if t107.toList = ([98] : List UInt8) then ((keys_Next.f (⟨#[97]⟩ : ByteArray)).bind fun t109 => (if t109.toList = ([97, 0] : List UInt8) then ((keys_In.f (⟨#[97]⟩ : ByteArray) (⟨#[]⟩ : ByteArray) (⟨#[98]⟩ : ByteArray)).bind fun t110 => (if t110 = true then ((keys_Prefix.f k (⟨#[97]⟩ : ByteArray)).bind fun bt111 => (some (bt111.1.toList == ([97] : List UInt8) && (bt111.2.toList == ([98] : List UInt8))))) else (some false))) else (some false))) else (some false)) else (some false)) = some r := H
 have A1 := Aside0.mk A10
 clear A10
 by_cases c2 : t108 = true
 ·
  subst c2
  have H1 : (if t107.toList = ([98] : List UInt8) then ((keys_Next.f (⟨#[97]⟩ : ByteArray)).bind fun t109 => (if t109.toList = ([97, 0] : List UInt8) then ((keys_In.f (⟨#[97]⟩ : ByteArray) (⟨#[]⟩ : ByteArray) (⟨#[98]⟩ : ByteArray)).bind fun t110 => (if t110 = true then ((keys_Prefix.f k (⟨#[97]⟩ : ByteArray)).bind fun bt111 => (some (bt111.1.toList == ([97] : List UInt8) && (bt111.2.toList == ([98] : List UInt8))))) else (some false))) else (some false))) else (some false)) = some r := by rw [if_pos rfl] at H; first | done | exact H
  clear H
  have H := H1
  clear H1
  by_cases c3 : t107.toList = ([98] : List UInt8)
  ·
   rw [if_pos c3] at H
   have c3b0 : (t107.toList == ([98] : List UInt8)) = true := beq_iff_eq.mpr c3
   have c3b1 : (t107.toList != ([98] : List UInt8)) = false := bne_eq_false_iff_eq.mpr c3
   clear c3
   replace H := Option.bind_eq_some_iff.mp H
   obtain ⟨t109, A40, H⟩ := H
   replace H : (if t109.toList = ([97, 0] : List UInt8) then ((keys_In.f (⟨#[97]⟩ : ByteArray) (⟨#[]⟩ : ByteArray) (⟨#[98]⟩ : ByteArray)).bind fun t110 => (if t110 = true then ((keys_Prefix.f k (⟨#[97]⟩ : ByteArray)).bind fun bt111 => (some (bt111.1.toList == ([97] : List UInt8) && (bt111.2.toList == ([98] : List UInt8))))) else (some false))) else (some false)) = some r := H
   have A4 := Aside0.mk A40
   clear A40
   by_cases c5 : t109.toList = ([97, 0] : List UInt8)
   ·
    rw [if_pos c5] at H
    have c5b0 : (t109.toList == ([97, 0] : List UInt8)) = true := beq_iff_eq.mpr c5
    have c5b1 : (t109.toList != ([97, 0] : List UInt8)) = false := bne_eq_false_iff_eq.mpr c5
    clear c5
    replace H := Option.bind_eq_some_iff.mp H
    obtain ⟨t110, A60, H⟩ := H
    replace H : (if t110 = true then ((keys_Prefix.f k (⟨#[97]⟩ : ByteArray)).bind fun bt111 => (some (bt111.1.toList == ([97] : List UInt8) && (bt111.2.toList == ([98] : List UInt8))))) else (some false)) = some r := H
    have A6 := Aside0.mk A60
    clear A60
    by_cases c7 : t110 = true
    ·
     subst c7
     have H1 : ((keys_Prefix.f k (⟨#[97]⟩ : ByteArray)).bind fun bt111 => (some (bt111.1.toList == ([97] : List UInt8) && (bt111.2.toList == ([98] : List UInt8))))) = some r := by rw [if_pos rfl] at H; first | done | exact H
     clear H
     have H := H1
     clear H1
     replace H := Option.bind_eq_some_iff.mp H
     obtain ⟨⟨t111, t112⟩, A80, H⟩ := H
     replace H : (some (t111.toList == ([97] : List UInt8) && (t112.toList == ([98] : List UInt8)))) = some r := H
     have A8 := Aside0.mk A80
     clear A80
     obtain rfl := Option.some.inj H
     go_enter Try.func13, Try.ntmps13
     go_wp2_with (first | ((with_reducible refine gate_callee (f := 11) rfl ?_); refine goesL_ (some 4) rfl rfl Try.func11 (by kernel_rfl) rfl #[.string (⟨#[97, 98, 99]⟩ : ByteArray), .string (⟨#[98]⟩ : ByteArray)] rfl (by (try simp only [List.map_toArray, List.map_cons, List.map_nil]); first | done | rfl | (simp only [List.length_drop, List.length_take]; rfl)) ?_; (with_reducible refine (keys_Separator.calls k (⟨#[97, 98, 99]⟩ : ByteArray) (⟨#[98]⟩ : ByteArray) t107 true _ A1.out).mono ?_); rintro e w' ⟨rfl, ⟨nd, rfl⟩⟩; refine ⟨_, rfl, ?_⟩) | (go_at_call 16; (with_reducible refine (keys_Next.calls (⟨#[97]⟩ : ByteArray) t109 _ A4.out).mono ?_); rintro e w' ⟨rfl, ⟨nd, rfl⟩⟩) | (go_at_call 15; (with_reducible refine (keys_In.calls (⟨#[97]⟩ : ByteArray) (⟨#[]⟩ : ByteArray) (⟨#[98]⟩ : ByteArray) true _ A6.out).mono ?_); rintro e w9 ⟨rfl, hb⟩; have n0_ := Aside0.mk (below_step (by repeat (first | (with_reducible first | exact HB.out | apply below_alloc | apply pw_below_drewN | apply below_drew1) | exact HB.out)) hb); clear HB; have HB := n0_; clear n0_; (try clear hb); (try clear hb2); (try clear hk); (try clear hi)) | (go_at_call 14; (with_reducible refine (keys_Prefix.calls k (⟨#[97]⟩ : ByteArray) t111 t112 _ A8.out).mono ?_); rintro e w10 ⟨rfl, hb⟩; have n0_ := Aside0.mk (below_step (by repeat (first | (with_reducible first | exact HB.out | apply below_alloc | apply pw_below_drewN | apply below_drew1) | exact HB.out)) hb); clear HB; have HB := n0_; clear n0_; (try clear hb); (try clear hb2); (try clear hk); (try clear hi)))
     go_ret
     exact ⟨by first | rfl | (simp [errW_none, errW_some] <;> rfl) | (simp [*, errW_none, errW_some] <;> rfl), by repeat (first | (with_reducible first | exact HB.out | apply below_alloc | apply pw_below_drewN | apply below_drew1) | exact HB.out)⟩
    ·
     replace c7 := Bool.eq_false_iff.mpr c7
     subst c7
     have H1 : (some false) = some r := by rw [if_neg (show ¬ (false = true) by decide)] at H; first | done | exact H
     clear H
     have H := H1
     clear H1
     obtain rfl := Option.some.inj H
     go_enter Try.func13, Try.ntmps13
     go_wp2_with (first | ((with_reducible refine gate_callee (f := 11) rfl ?_); refine goesL_ (some 4) rfl rfl Try.func11 (by kernel_rfl) rfl #[.string (⟨#[97, 98, 99]⟩ : ByteArray), .string (⟨#[98]⟩ : ByteArray)] rfl (by (try simp only [List.map_toArray, List.map_cons, List.map_nil]); first | done | rfl | (simp only [List.length_drop, List.length_take]; rfl)) ?_; (with_reducible refine (keys_Separator.calls k (⟨#[97, 98, 99]⟩ : ByteArray) (⟨#[98]⟩ : ByteArray) t107 true _ A1.out).mono ?_); rintro e w' ⟨rfl, ⟨nd, rfl⟩⟩; refine ⟨_, rfl, ?_⟩) | (go_at_call 16; (with_reducible refine (keys_Next.calls (⟨#[97]⟩ : ByteArray) t109 _ A4.out).mono ?_); rintro e w' ⟨rfl, ⟨nd, rfl⟩⟩) | (go_at_call 15; (with_reducible refine (keys_In.calls (⟨#[97]⟩ : ByteArray) (⟨#[]⟩ : ByteArray) (⟨#[98]⟩ : ByteArray) false _ A6.out).mono ?_); rintro e w11 ⟨rfl, hb⟩; have n0_ := Aside0.mk (below_step (by repeat (first | (with_reducible first | exact HB.out | apply below_alloc | apply pw_below_drewN | apply below_drew1) | exact HB.out)) hb); clear HB; have HB := n0_; clear n0_; (try clear hb); (try clear hb2); (try clear hk); (try clear hi)))
     go_ret
     exact ⟨by first | rfl | (simp [errW_none, errW_some] <;> rfl) | (simp [*, errW_none, errW_some] <;> rfl), by repeat (first | (with_reducible first | exact HB.out | apply below_alloc | apply pw_below_drewN | apply below_drew1) | exact HB.out)⟩
   ·
    rw [if_neg c5] at H
    have c5b0 : (t109.toList == ([97, 0] : List UInt8)) = false := beq_eq_false_iff_ne.mpr c5
    have c5b1 : (t109.toList != ([97, 0] : List UInt8)) = true := bne_iff_ne.mpr c5
    obtain rfl := Option.some.inj H
    go_enter Try.func13, Try.ntmps13
    go_wp2_with (first | ((with_reducible refine gate_callee (f := 11) rfl ?_); refine goesL_ (some 4) rfl rfl Try.func11 (by kernel_rfl) rfl #[.string (⟨#[97, 98, 99]⟩ : ByteArray), .string (⟨#[98]⟩ : ByteArray)] rfl (by (try simp only [List.map_toArray, List.map_cons, List.map_nil]); first | done | rfl | (simp only [List.length_drop, List.length_take]; rfl)) ?_; (with_reducible refine (keys_Separator.calls k (⟨#[97, 98, 99]⟩ : ByteArray) (⟨#[98]⟩ : ByteArray) t107 true _ A1.out).mono ?_); rintro e w' ⟨rfl, ⟨nd, rfl⟩⟩; refine ⟨_, rfl, ?_⟩) | (go_at_call 16; (with_reducible refine (keys_Next.calls (⟨#[97]⟩ : ByteArray) t109 _ A4.out).mono ?_); rintro e w' ⟨rfl, ⟨nd, rfl⟩⟩))
    go_ret
    exact ⟨by first | rfl | (simp [errW_none, errW_some] <;> rfl) | (simp [*, errW_none, errW_some] <;> rfl), by repeat (first | (with_reducible first | exact HB.out | apply below_alloc | apply pw_below_drewN | apply below_drew1) | exact HB.out)⟩
  ·
   rw [if_neg c3] at H
   have c3b0 : (t107.toList == ([98] : List UInt8)) = false := beq_eq_false_iff_ne.mpr c3
   have c3b1 : (t107.toList != ([98] : List UInt8)) = true := bne_iff_ne.mpr c3
   obtain rfl := Option.some.inj H
   go_enter Try.func13, Try.ntmps13
   go_wp2_with (first | ((with_reducible refine gate_callee (f := 11) rfl ?_); refine goesL_ (some 4) rfl rfl Try.func11 (by kernel_rfl) rfl #[.string (⟨#[97, 98, 99]⟩ : ByteArray), .string (⟨#[98]⟩ : ByteArray)] rfl (by (try simp only [List.map_toArray, List.map_cons, List.map_nil]); first | done | rfl | (simp only [List.length_drop, List.length_take]; rfl)) ?_; (with_reducible refine (keys_Separator.calls k (⟨#[97, 98, 99]⟩ : ByteArray) (⟨#[98]⟩ : ByteArray) t107 true _ A1.out).mono ?_); rintro e w' ⟨rfl, ⟨nd, rfl⟩⟩; refine ⟨_, rfl, ?_⟩))
   go_ret
   exact ⟨by first | rfl | (simp [errW_none, errW_some] <;> rfl) | (simp [*, errW_none, errW_some] <;> rfl), by repeat (first | (with_reducible first | exact HB.out | apply below_alloc | apply pw_below_drewN | apply below_drew1) | exact HB.out)⟩
 ·
  replace c2 := Bool.eq_false_iff.mpr c2
  subst c2
  have H1 : (some false) = some r := by rw [if_neg (show ¬ (false = true) by decide)] at H; first | done | exact H
  clear H
  have H := H1
  clear H1
  obtain rfl := Option.some.inj H
  go_enter Try.func13, Try.ntmps13
  go_wp2_with (first | ((with_reducible refine gate_callee (f := 11) rfl ?_); refine goesL_ (some 4) rfl rfl Try.func11 (by kernel_rfl) rfl #[.string (⟨#[97, 98, 99]⟩ : ByteArray), .string (⟨#[98]⟩ : ByteArray)] rfl (by (try simp only [List.map_toArray, List.map_cons, List.map_nil]); first | done | rfl | (simp only [List.length_drop, List.length_take]; rfl)) ?_; (with_reducible refine (keys_Separator.calls k (⟨#[97, 98, 99]⟩ : ByteArray) (⟨#[98]⟩ : ByteArray) t107 false _ A1.out).mono ?_); rintro e w' ⟨rfl, ⟨nd, rfl⟩⟩; refine ⟨_, rfl, ?_⟩))
  go_ret
  exact ⟨by first | rfl | (simp [errW_none, errW_some] <;> rfl) | (simp [*, errW_none, errW_some] <;> rfl), by repeat (first | (with_reducible first | exact HB.out | apply below_alloc | apply pw_below_drewN | apply below_drew1) | exact HB.out)⟩

end Go.Proofs.Ytmgbmnjjkcljhaa.B

-- Written by a program of this session (wip/print2) out of Lean's print of the translation. Not trusted: Lean checks it.
import Derived.Test.YtphdinelioendaaBx0
import Derived.Test.YtphdinelioendaaBx1
import Derived.Test.YtphdinelioendaaBx2
import Derived.Test.YtphdinelioendaaBx5
import Derived.Test.YtphdinelioendaaBx7
import Derived.Test.YtphdinelioendaaBx13
import Derived.Test.YtphdinelioendaaBx15
namespace Go.Proofs.Ytphdinelioendaa.B
open Go.RowKit Go.Proofs.YtphdinelioendaaW.PrintWords Go.Proofs.YtphdinelioendaaW.PrintLast Go.Proofs.YtphdinelioendaaW.PrintMore Go.Proofs.YtphdinelioendaaW.Mine
attribute [local go_sem] max2_int min2_int max_two min_two max_three min_three max_four min_four str_gtr str_leq str_geq str_max str_min   -- for this text's walks alone
set_option linter.unusedVariables false
set_option linter.unusedSimpArgs false

/-! ### cressetlaw01_CodecTexts: function 11 -/
def cressetlaw01_CodecTexts.j0 : Nat → ByteArray → Bool → List Int → ByteArray → Int → Int → List Int → Int → Int → Bool → Int → Int → Bool → Int → Int → List Int → Option (Bool)
  | 0, _, _, _, _, _, _, _, _, _, _, _, _, _, _, _, _ => none
  | k + 1, x0, x1, x2, x7, x8, x9, x10, x11, x12, x13, x14, x15, x16, x17, x18, x19 => (cressetlaw01_live.f k).bind fun t346 => (if t346 = true then ((codec_PutText.f k x2 x0).bind fun t347 => ((bytes_Clone.f x2).bind fun t350 => (if x0.size < 140737488355328 then ((cressetref01_Bytes.f k (bytesOf x0)).bind fun t357 => (if t350.length + t357.length < 140737488355328 then ((bytes_Equal.f t347 (t350 ++ t357)).bind fun t363 => (if t363 = true then ((codec_PutFlag.f k x2 x1).bind fun t364 => ((bytes_Clone.f x2).bind fun t367 => (if t367.length + x19.length < 140737488355328 then ((bytes_Equal.f t364 (t367 ++ x19)).bind fun t373 => (if t373 = true then (if x7.toList = (strOfNums x10).toList then (if x8 = x11 then (if x9 = x12 then (if (x13 == x16) = true then (if x14 = x17 then (some (x15 == x18)) else (some false)) else (some false)) else (some false)) else (some false)) else (some false)) else (some false))) else (none)))) else (some false))) else (none))) else (none)))) else (some false))
def cressetlaw01_CodecTexts.f (k : Nat) (a0 : ByteArray) (a1 : Bool) (l2 : List Int) : Option (Bool) := (codec_Text.f k l2).bind fun bt328 => ((cressetref01_ParseBytes.f k l2).bind fun bt331 => ((codec_Flag.f k l2).bind fun bt336 => ((cressetref01_ParseFlag.f k l2).bind fun bt339 => ((some (([108] : List Int) : List Int)).bind fun y342 => (if a1 = true then (if 0 < (y342.length : Int) then (cressetlaw01_CodecTexts.j0 k a0 a1 l2 bt328.1 bt328.2.1 bt328.2.2 bt331.1 bt331.2.1 bt331.2.2 bt336.1 bt336.2.1 bt336.2.2 bt339.1 bt339.2.1 bt339.2.2 (y342.set (0 : Int).toNat 109)) else (none)) else (cressetlaw01_CodecTexts.j0 k a0 a1 l2 bt328.1 bt328.2.1 bt328.2.2 bt331.1 bt331.2.1 bt331.2.2 bt336.1 bt336.2.1 bt336.2.2 bt339.1 bt339.2.1 bt339.2.2 y342))))))
theorem cressetlaw01_CodecTexts.mono_l : ∀ k, (∀ y0 y1 y2 y3 y4 y5 y6 y7 y8 y9 y10 y11 y12 y13 y14 y15, LeO (cressetlaw01_CodecTexts.j0 k y0 y1 y2 y3 y4 y5 y6 y7 y8 y9 y10 y11 y12 y13 y14 y15) (cressetlaw01_CodecTexts.j0 (k + 1) y0 y1 y2 y3 y4 y5 y6 y7 y8 y9 y10 y11 y12 y13 y14 y15))
  | 0 => fun _ _ _ _ _ _ _ _ _ _ _ _ _ _ _ _ r h => by simp [cressetlaw01_CodecTexts.j0] at h
  | k + 1 => by
    have ih0 := cressetlaw01_CodecTexts.mono_l k
    · intro y0 y1 y2 y3 y4 y5 y6 y7 y8 y9 y10 y11 y12 y13 y14 y15
      unfold cressetlaw01_CodecTexts.j0
      repeat' first
      | (with_reducible exact ih0 _ _ _ _ _ _ _ _ _ _ _ _ _ _ _ _)
      | (with_reducible exact codec_Flag.mono _ _)
      | (with_reducible exact codec_PutFlag.mono _ _ _)
      | (with_reducible exact codec_PutText.mono _ _ _)
      | (with_reducible exact codec_Text.mono _ _)
      | (with_reducible exact cressetlaw01_live.mono _)
      | (with_reducible exact cressetref01_Bytes.mono _ _)
      | (with_reducible exact cressetref01_ParseBytes.mono _ _)
      | (with_reducible exact cressetref01_ParseFlag.mono _ _)
      | (with_reducible exact LeO.refl _)
      | (with_reducible exact LeO.none _)
      | (with_reducible refine LeO.ite ?_ ?_)
      | (with_reducible refine LeO.bind ?_ (fun _ => ?_))
      | exact ih0 _ _ _ _ _ _ _ _ _ _ _ _ _ _ _ _
      | exact codec_Flag.mono _ _
      | exact codec_PutFlag.mono _ _ _
      | exact codec_PutText.mono _ _ _
      | exact codec_Text.mono _ _
      | exact cressetlaw01_live.mono _
      | exact cressetref01_Bytes.mono _ _
      | exact cressetref01_ParseBytes.mono _ _
      | exact cressetref01_ParseFlag.mono _ _
      | exact LeO.none _
      | refine LeO.ite ?_ ?_
      | refine LeO.bind ?_ (fun _ => ?_)
theorem cressetlaw01_CodecTexts.mono : ∀ a0 a1 a2 k, LeO (cressetlaw01_CodecTexts.f k a0 a1 a2) (cressetlaw01_CodecTexts.f (k + 1) a0 a1 a2) := by
  intro a0 a1 a2 k
  have ih0 := cressetlaw01_CodecTexts.mono_l k
  unfold cressetlaw01_CodecTexts.f
  repeat' first
      | (with_reducible exact ih0 _ _ _ _ _ _ _ _ _ _ _ _ _ _ _ _)
      | (with_reducible exact codec_Flag.mono _ _)
      | (with_reducible exact codec_PutFlag.mono _ _ _)
      | (with_reducible exact codec_PutText.mono _ _ _)
      | (with_reducible exact codec_Text.mono _ _)
      | (with_reducible exact cressetlaw01_live.mono _)
      | (with_reducible exact cressetref01_Bytes.mono _ _)
      | (with_reducible exact cressetref01_ParseBytes.mono _ _)
      | (with_reducible exact cressetref01_ParseFlag.mono _ _)
      | (with_reducible exact LeO.refl _)
      | (with_reducible exact LeO.none _)
      | (with_reducible refine LeO.ite ?_ ?_)
      | (with_reducible refine LeO.bind ?_ (fun _ => ?_))
      | exact ih0 _ _ _ _ _ _ _ _ _ _ _ _ _ _ _ _
      | exact codec_Flag.mono _ _
      | exact codec_PutFlag.mono _ _ _
      | exact codec_PutText.mono _ _ _
      | exact codec_Text.mono _ _
      | exact cressetlaw01_live.mono _
      | exact cressetref01_Bytes.mono _ _
      | exact cressetref01_ParseBytes.mono _ _
      | exact cressetref01_ParseFlag.mono _ _
      | exact LeO.none _
      | refine LeO.ite ?_ ?_
      | refine LeO.bind ?_ (fun _ => ?_)
set_option maxHeartbeats 8000000 in
set_option maxRecDepth 100000 in
theorem cressetlaw01_CodecTexts.calls (k : Nat) (a0 : ByteArray) (a1 : Bool) (A2 : Option Addr) (c2 : Nat) (l2 : List Int) (w : World) (hr2 : Kd.C (Kd.int .u8) w A2 l2.length l2) (hc2 : l2.length ≤ c2) (h : cressetlaw01_CodecTexts.f k a0 a1 l2 = some true) :
    Calls Try.prog 11 #[.string a0, .bool a1, .slice A2 l2.length c2] w fun e w' => e = .returned (.bool true) ∧ Below w.heap.size w w' := by
  have HR2 := Aside0.mk hr2
  have HC2 := Aside0.mk hc2
  clear hr2 hc2
  have HB := Aside0.mk (Below.refl w.heap.size w)
  have H : ((codec_Text.f k l2).bind fun bt328 => ((cressetref01_ParseBytes.f k l2).bind fun bt331 => ((codec_Flag.f k l2).bind fun bt336 => ((cressetref01_ParseFlag.f k l2).bind fun bt339 => ((some (([108] : List Int) : List Int)).bind fun y342 => (if a1 = true then (if 0 < (y342.length : Int) then (cressetlaw01_CodecTexts.j0 k a0 a1 l2 bt328.1 bt328.2.1 bt328.2.2 bt331.1 bt331.2.1 bt331.2.2 bt336.1 bt336.2.1 bt336.2.2 bt339.1 bt339.2.1 bt339.2.2 (y342.set (0 : Int).toNat 109)) else (none)) else (cressetlaw01_CodecTexts.j0 k a0 a1 l2 bt328.1 bt328.2.1 bt328.2.2 bt331.1 bt331.2.1 bt331.2.2 bt336.1 bt336.2.1 bt336.2.2 bt339.1 bt339.2.1 bt339.2.2 y342))))))) = some true := h
  clear h
  replace H := Option.bind_eq_some_iff.mp H
  obtain ⟨⟨t328, t329, t330⟩, A40, H⟩ := H
  replace H : ((cressetref01_ParseBytes.f k l2).bind fun bt331 => ((codec_Flag.f k l2).bind fun bt336 => ((cressetref01_ParseFlag.f k l2).bind fun bt339 => ((some (([108] : List Int) : List Int)).bind fun y342 => (if a1 = true then (if 0 < (y342.length : Int) then (cressetlaw01_CodecTexts.j0 k a0 a1 l2 t328 t329 t330 bt331.1 bt331.2.1 bt331.2.2 bt336.1 bt336.2.1 bt336.2.2 bt339.1 bt339.2.1 bt339.2.2 (y342.set (0 : Int).toNat 109)) else (none)) else (cressetlaw01_CodecTexts.j0 k a0 a1 l2 t328 t329 t330 bt331.1 bt331.2.1 bt331.2.2 bt336.1 bt336.2.1 bt336.2.2 bt339.1 bt339.2.1 bt339.2.2 y342)))))) = some true := H
  have A4 := Aside0.mk A40
  clear A40
  replace H := Option.bind_eq_some_iff.mp H
  obtain ⟨⟨t331, t332, t333⟩, A50, H⟩ := H
  replace H : ((codec_Flag.f k l2).bind fun bt336 => ((cressetref01_ParseFlag.f k l2).bind fun bt339 => ((some (([108] : List Int) : List Int)).bind fun y342 => (if a1 = true then (if 0 < (y342.length : Int) then (cressetlaw01_CodecTexts.j0 k a0 a1 l2 t328 t329 t330 t331 t332 t333 bt336.1 bt336.2.1 bt336.2.2 bt339.1 bt339.2.1 bt339.2.2 (y342.set (0 : Int).toNat 109)) else (none)) else (cressetlaw01_CodecTexts.j0 k a0 a1 l2 t328 t329 t330 t331 t332 t333 bt336.1 bt336.2.1 bt336.2.2 bt339.1 bt339.2.1 bt339.2.2 y342))))) = some true := H
  have A5 := Aside0.mk A50
  clear A50
  replace H := Option.bind_eq_some_iff.mp H
  obtain ⟨⟨t336, t337, t338⟩, A60, H⟩ := H
  replace H : ((cressetref01_ParseFlag.f k l2).bind fun bt339 => ((some (([108] : List Int) : List Int)).bind fun y342 => (if a1 = true then (if 0 < (y342.length : Int) then (cressetlaw01_CodecTexts.j0 k a0 a1 l2 t328 t329 t330 t331 t332 t333 t336 t337 t338 bt339.1 bt339.2.1 bt339.2.2 (y342.set (0 : Int).toNat 109)) else (none)) else (cressetlaw01_CodecTexts.j0 k a0 a1 l2 t328 t329 t330 t331 t332 t333 t336 t337 t338 bt339.1 bt339.2.1 bt339.2.2 y342)))) = some true := H
  have A6 := Aside0.mk A60
  clear A60
  replace H := Option.bind_eq_some_iff.mp H
  obtain ⟨⟨t339, t340, t341⟩, A70, H⟩ := H
  replace H : ((some (([108] : List Int) : List Int)).bind fun y342 => (if a1 = true then (if 0 < (y342.length : Int) then (cressetlaw01_CodecTexts.j0 k a0 a1 l2 t328 t329 t330 t331 t332 t333 t336 t337 t338 t339 t340 t341 (y342.set (0 : Int).toNat 109)) else (none)) else (cressetlaw01_CodecTexts.j0 k a0 a1 l2 t328 t329 t330 t331 t332 t333 t336 t337 t338 t339 t340 t341 y342))) = some true := H
  have A7 := Aside0.mk A70
  clear A70
  obtain ⟨y342, hy342⟩ : ∃ y_ : List Int, y_ = (([108] : List Int)) := ⟨_, rfl⟩
  replace H : (if a1 = true then (if 0 < (y342.length : Int) then (cressetlaw01_CodecTexts.j0 k a0 a1 l2 t328 t329 t330 t331 t332 t333 t336 t337 t338 t339 t340 t341 (y342.set (0 : Int).toNat 109)) else (none)) else (cressetlaw01_CodecTexts.j0 k a0 a1 l2 t328 t329 t330 t331 t332 t333 t336 t337 t338 t339 t340 t341 y342)) = some true := by first | (rw [hy342]; with_reducible exact H) | (have H2_ := (Option.bind_some _ _).symm.trans H; rw [hy342]; with_reducible exact H2_) | (have H2_ := (Option.bind_some _ _).symm.trans H; with_reducible exact H2_) | with_reducible exact H | (rw [hy342]; exact H) | exact H
  have Ny342 := Aside0.mk hy342
  clear hy342
  have HC8 := Aside0.mk H
  clear H
  go_enter Try.func11, Try.ntmps11
  go_upto_if 45 with (first | ((with_reducible refine gate_callee (f := 26) rfl ?_); refine goesL_ (some 22) rfl rfl Try.func26 (by kernel_rfl) rfl #[.slice A2 l2.length c2] rfl (by (try simp only [List.map_toArray, List.map_cons, List.map_nil]); first | done | rfl | (simp only [List.length_drop, List.length_take]; rfl)) ?_; (with_reducible refine (codec_Text.calls k _ _ l2 t328 t329 t330 _ ?side1 ?side2 A4.out).mono ?_); (case side1 => repeat (first | exact HR2.out | (with_reducible refine Kd.C_alloc ?_ _) | (with_reducible refine Kd.C_drewN ?_ _) | (with_reducible refine Kd.C_drew ?_))); (case side2 => exact HC2.out); rintro e w' ⟨rfl, ⟨nd, rfl⟩⟩; refine ⟨_, rfl, ?_⟩) | ((with_reducible refine gate_callee (f := 32) rfl ?_); refine goesL_ (some 28) rfl rfl Try.func32 (by kernel_rfl) rfl #[.slice A2 l2.length c2] rfl (by (try simp only [List.map_toArray, List.map_cons, List.map_nil]); first | done | rfl | (simp only [List.length_drop, List.length_take]; rfl)) ?_; (with_reducible refine (cressetref01_ParseBytes.calls k _ _ l2 t331 t332 t333 _ ?side1 ?side2 A5.out).mono ?_); (case side1 => repeat (first | exact HR2.out | (with_reducible refine Kd.C_alloc ?_ _) | (with_reducible refine Kd.C_drewN ?_ _) | (with_reducible refine Kd.C_drew ?_))); (case side2 => exact HC2.out); rintro e w9 ⟨v334, rfl, ho0, hb⟩; refine ⟨_, rfl, ?_⟩; have n0_ := Aside0.mk (Kd.R_lower ho0 (below_size (by repeat (first | (with_reducible first | exact HB.out | apply below_alloc | apply pw_below_drewN | apply below_drew1) | exact HB.out)))); have n1_ := Aside0.mk (below_step (by repeat (first | (with_reducible first | exact HB.out | apply below_alloc | apply pw_below_drewN | apply below_drew1) | exact HB.out)) hb); clear HB; have HO335 := n0_; have HB := n1_; clear n0_ n1_; (try clear hb); (try clear hb2); (try clear hk); (try clear hi); (try clear ho0)) | ((with_reducible refine gate_callee (f := 31) rfl ?_); refine goesL_ (some 34) rfl rfl Try.func31 (by kernel_rfl) rfl #[.slice A2 l2.length c2] rfl (by (try simp only [List.map_toArray, List.map_cons, List.map_nil]); first | done | rfl | (simp only [List.length_drop, List.length_take]; rfl)) ?_; (with_reducible refine (codec_Flag.calls k _ _ l2 t336 t337 t338 _ ?side1 ?side2 A6.out).mono ?_); (case side1 => repeat (first | exact (Kd.C_below HR2.out HB.out) | (with_reducible refine Kd.C_alloc ?_ _) | (with_reducible refine Kd.C_drewN ?_ _) | (with_reducible refine Kd.C_drew ?_))); (case side2 => exact HC2.out); rintro e w' ⟨rfl, ⟨nd, rfl⟩⟩; refine ⟨_, rfl, ?_⟩) | ((with_reducible refine gate_callee (f := 33) rfl ?_); refine goesL_ (some 40) rfl rfl Try.func33 (by kernel_rfl) rfl #[.slice A2 l2.length c2] rfl (by (try simp only [List.map_toArray, List.map_cons, List.map_nil]); first | done | rfl | (simp only [List.length_drop, List.length_take]; rfl)) ?_; (with_reducible refine (cressetref01_ParseFlag.calls k _ _ l2 t339 t340 t341 _ ?side1 ?side2 A7.out).mono ?_); (case side1 => repeat (first | exact (Kd.C_below HR2.out (by repeat (first | (with_reducible first | exact HB.out | apply below_alloc | apply pw_below_drewN | apply below_drew1) | exact HB.out))) | (with_reducible refine Kd.C_alloc ?_ _) | (with_reducible refine Kd.C_drewN ?_ _) | (with_reducible refine Kd.C_drew ?_))); (case side2 => exact HC2.out); rintro e w' ⟨rfl, ⟨nd, rfl⟩⟩; refine ⟨_, rfl, ?_⟩) | ((with_reducible refine gate_dst (N := 44) rfl ?_); (try (refine gate_guard (by rfl) ?_; dsimp only)); refine Kd.R_lit (Kd.int .u8) _ 5 ?hg (N := 44) ?hd (xs := ([108] : List Int)) (inner := [.int .u8 108]) (ok := fun _ => True) (okp := fun _ => True) ?hr ?hp (fun _ hk => hk) trivial (Below.refl _ _) (Nat.le_refl _) (by simp) ?_; (case hd => rfl); (case hg => rfl); (case hr => first | (go_simp; done) | (go_simp; rfl)); (case hp => exact (Reps.one (show Kd.M (Kd.int .u8) _ _ _ 108 [.int .u8 108] from rfl) (Reps.none _ _))); intro v343 w10 ho11 hb hg_ hnew_; clear hg_ hnew_; (first | rw [← Ny342.out] at ho11 | (simp only [Int.reduceToNat] at ho11; rw [← Ny342.out] at ho11)); have n0_ := Aside0.mk (Kd.R_elder' (by (with_reducible repeat (first | apply Kd.R_alloc | apply Kd.R_drewN | apply Kd.R_drew)); exact HO335.out) (Kd.R_base ho11) hb); have n1_ := Aside0.mk (Kd.R_lower (Kd.R_new' ho11 (Kd.R_lt (by (with_reducible repeat (first | apply Kd.R_alloc | apply Kd.R_drewN | apply Kd.R_drew)); exact HO335.out))) (below_size (by repeat (first | (with_reducible first | exact HB.out | apply below_alloc | apply pw_below_drewN | apply below_drew1) | exact HB.out)))); have n2_ := Aside0.mk (below_step (by repeat (first | (with_reducible first | exact HB.out | apply below_alloc | apply pw_below_drewN | apply below_drew1) | exact HB.out)) hb); clear HO335; clear HB; have HO335 := n0_; have HO344 := n1_; have HB := n2_; clear n0_ n1_ n2_; clear hb ho11))
  (try simp only [Act.put, List.setIfInBounds_toArray, List.set_cons_zero, List.set_cons_succ])
  go_cut [] (fun wc => ∃ (kq : Nat) (x19_7 : List Int), Aside0 (cressetlaw01_CodecTexts.j0 kq a0 a1 l2 t328 t329 t330 t331 t332 t333 t336 t337 t338 t339 t340 t341 x19_7 = some true) ∧ Aside0 (kq ≤ k) ∧ Aside0 (Kd.R (Kd.int .u8) 5 wc w.heap.size (fun k_ => some k_ ≠ (v343 : Value).ownBlock) v334 t331) ∧ Aside0 (Kd.R (Kd.int .u8) 5 wc w.heap.size (fun k_ => some k_ ≠ (v334 : Value).ownBlock) v343 x19_7) ∧ Aside0 (Below w.heap.size w wc))
  case first =>
    have H := HC8.out
    clear HC8
    by_cases c12 : a1 = true
    · subst c12
      have H1 : (if 0 < (y342.length : Int) then (cressetlaw01_CodecTexts.j0 k a0 true l2 t328 t329 t330 t331 t332 t333 t336 t337 t338 t339 t340 t341 (y342.set (0 : Int).toNat 109)) else (none)) = some true := by rw [if_pos rfl] at H; first | done | exact H
      clear H
      have H := H1
      clear H1
      by_cases c13 : 0 < (y342.length : Int)
      · rw [if_pos c13] at H
        have c13b0 : decide (0 < (y342.length : Int)) = true := decide_eq_true c13
        have c13b1 : decide (0 < y342.length) = true := decide_eq_true (by omega)
        clear c13
        (first | rw [c13b0] | (simp only [i64_w, i32_w]; rw [c13b0]) | skip)
        obtain ⟨y345, hy345⟩ : ∃ y_ : List Int, y_ = (y342.set (0 : Int).toNat 109) := ⟨_, rfl⟩
        replace H : (cressetlaw01_CodecTexts.j0 k a0 true l2 t328 t329 t330 t331 t332 t333 t336 t337 t338 t339 t340 t341 y345) = some true := by first | (rw [hy345]; with_reducible exact H) | (have H2_ := (Option.bind_some _ _).symm.trans H; rw [hy345]; with_reducible exact H2_) | (have H2_ := (Option.bind_some _ _).symm.trans H; with_reducible exact H2_) | with_reducible exact H | (rw [hy345]; exact H) | exact H
        have Ny345 := Aside0.mk hy345
        clear hy345
        have H' := Aside0.mk H
        clear H
        have p14 : 0 ≤ (0 : Int) := (by omega)
        have q14 : (0 : Int) < ((y342.length : Int) : Int) := of_decide_eq_true (by first | (with_reducible assumption) | assumption)
        have qi14 : (0 < y342.length) = True := eq_true (by omega)
        obtain ⟨go14, co14, eo14, gb14, gl14, cl14, HG14⟩ := Kd.R_form HO344.out (by omega)
        (first | cases eo14 | (injection eo14 with ea_ en_ ec_; (first | subst ea_ | (injection ea_ with ea_; subst ea_)); subst ec_; clear en_))
        have GB14 := Aside0.mk gb14
        have GG14 := Aside0.mk HG14
        clear gb14 gl14 HG14
        obtain ⟨hx14_0, hf14_0⟩ := Kd.R_celln 0 HO344.out (0 : Int) p14 q14
        (try rw [show ((0 : Int)).toNat = 0 from rfl] at hx14_0)
        (try simp only [Nat.reduceMul, Nat.zero_mul, Nat.zero_add, Nat.reduceAdd] at hx14_0)
        (try rw [show ((0 : Int)).toNat = 0 from rfl] at hf14_0)
        (try simp only [Nat.reduceMul, Nat.zero_mul, Nat.zero_add, Nat.reduceAdd] at hf14_0)
        replace p14 := eq_true p14
        replace q14 := eq_true q14
        have n_ := Aside0.mk (Kd.R_mono (ok' := (fun k_ => some k_ ≠ (v334 : Value).ownBlock)) HO344.out (fun k_ hk => hk.2))
        clear HO344
        have HO344 := n_
        clear n_
        have HP15 := Kd.R_putg HO344.out (0 : Int) 109
        go_wp2_with (first | ((with_reducible refine gate_store (t := 5) (p := 47) rfl ?_); refine store_event (t := 5) (p := 47) (v := ?vo_w16) (w1 := (w10.setCell ⟨go14, (0 : Int).toNat, none⟩ (.int .u8 109))) ?hg ?ho ?hn ?hr ?_; (case ho => rfl); (case hg => rfl); (case hn => rfl); (case hr => first | (go_simp; done) | (go_simp; rfl)); intro w16 hw; have hg : w10.grownBy w16 (some go14) := (by rw [hw]; exact HP15.2); have hp_ : Kd.R (Kd.int .u8) 5 w16 w.heap.size (fun k_ => some k_ ≠ (v334 : Value).ownBlock) (.slice (some ⟨go14, 0, none⟩) y342.length co14) y345 := (by rw [hw, Ny345.out]; exact HP15.1); clear HP15; have n0_ := Aside0.mk (Kd.R_after (v := (.slice (some ⟨go14, 0, none⟩) y342.length co14)) (v1 := (.slice (some ⟨go14, 0, none⟩) y342.length co14)) (ok := (fun _ => True)) (by (with_reducible repeat (first | apply Kd.R_alloc | apply Kd.R_drewN | apply Kd.R_drew)); exact HO335.out) hg (.inl rfl)); have n1_ := Aside0.mk (hp_); have n2_ := Aside0.mk ((by rw [hw]; exact below_set (HB.out) GB14.out : Below w.heap.size w w16)); clear HO335; clear HO344; clear HB; have HO335 := n0_; have HO344 := n1_; have HB := n2_; clear n0_ n1_ n2_; clear hg hw hp_))
        go_meet
        case rel => exact ⟨_, (y345), H', ⟨by first | omega | exact Nat.le_refl _⟩, ⟨by (with_reducible repeat (first | apply Kd.R_alloc | apply Kd.R_drewN | apply Kd.R_drew)); exact Kd.R_mono HO335.out (fun _ hk => hk.2)⟩, ⟨by (with_reducible repeat (first | apply Kd.R_alloc | apply Kd.R_drewN | apply Kd.R_drew)); exact HO344.out⟩, ⟨by repeat (first | (with_reducible first | exact HB.out | apply below_alloc | apply pw_below_drewN | apply below_drew1) | exact HB.out)⟩⟩
      · rw [if_neg c13] at H
        exact absurd H (by simp)
    · replace c12 := Bool.eq_false_iff.mpr c12
      subst c12
      have H1 : (cressetlaw01_CodecTexts.j0 k a0 false l2 t328 t329 t330 t331 t332 t333 t336 t337 t338 t339 t340 t341 y342) = some true := by rw [if_neg (show ¬ (false = true) by decide)] at H; first | done | exact H
      clear H
      have H := H1
      clear H1
      have H' := Aside0.mk H
      clear H
      go_wp2
      go_meet
      case rel => exact ⟨_, (y342), H', ⟨by first | omega | exact Nat.le_refl _⟩, ⟨by (with_reducible repeat (first | apply Kd.R_alloc | apply Kd.R_drewN | apply Kd.R_drew)); exact Kd.R_mono HO335.out (fun _ hk => hk.2)⟩, ⟨by (with_reducible repeat (first | apply Kd.R_alloc | apply Kd.R_drewN | apply Kd.R_drew)); exact Kd.R_mono HO344.out (fun _ hk => hk.2)⟩, ⟨by repeat (first | (with_reducible first | exact HB.out | apply below_alloc | apply pw_below_drewN | apply below_drew1) | exact HB.out)⟩⟩
  case rest =>
    clear HC8
    try clear c1
    try clear p1
    try clear q1
    try clear hx1
    try clear qi1
    try clear c2
    try clear p2
    try clear c3
    try clear c11
    try clear c12
    try clear c13
    try clear c13b0
    try clear c13b1
    try clear p14
    try clear q14
    try clear hx14
    try clear qi14
    try clear hf14
    try clear hx14_0
    try clear p14
    try clear q14
    obtain ⟨kq, x19_7, HA, HJ7, HO_10, HO_19, HB⟩ := hcut
    cases kq with
    | zero => exact absurd HA.out (by simp [cressetlaw01_CodecTexts.j0])
    | succ kj7 =>
      have H := HA.out
      clear HA
      simp only [cressetlaw01_CodecTexts.j0] at H
      replace H := Option.bind_eq_some_iff.mp H
      obtain ⟨t346, A170, H⟩ := H
      replace H : (if t346 = true then ((codec_PutText.f kj7 l2 a0).bind fun t347 => ((bytes_Clone.f l2).bind fun t350 => (if a0.size < 140737488355328 then ((cressetref01_Bytes.f kj7 (bytesOf a0)).bind fun t357 => (if t350.length + t357.length < 140737488355328 then ((bytes_Equal.f t347 (t350 ++ t357)).bind fun t363 => (if t363 = true then ((codec_PutFlag.f kj7 l2 a1).bind fun t364 => ((bytes_Clone.f l2).bind fun t367 => (if t367.length + x19_7.length < 140737488355328 then ((bytes_Equal.f t364 (t367 ++ x19_7)).bind fun t373 => (if t373 = true then (if t328.toList = (strOfNums t331).toList then (if t329 = t332 then (if t330 = t333 then (if (t336 == t339) = true then (if t337 = t340 then (some (t338 == t341)) else (some false)) else (some false)) else (some false)) else (some false)) else (some false)) else (some false))) else (none)))) else (some false))) else (none))) else (none)))) else (some false)) = some true := H
      have A17 := Aside0.mk A170
      clear A170
      by_cases c18 : t346 = true
      · subst c18
        have H1 : ((codec_PutText.f kj7 l2 a0).bind fun t347 => ((bytes_Clone.f l2).bind fun t350 => (if a0.size < 140737488355328 then ((cressetref01_Bytes.f kj7 (bytesOf a0)).bind fun t357 => (if t350.length + t357.length < 140737488355328 then ((bytes_Equal.f t347 (t350 ++ t357)).bind fun t363 => (if t363 = true then ((codec_PutFlag.f kj7 l2 a1).bind fun t364 => ((bytes_Clone.f l2).bind fun t367 => (if t367.length + x19_7.length < 140737488355328 then ((bytes_Equal.f t364 (t367 ++ x19_7)).bind fun t373 => (if t373 = true then (if t328.toList = (strOfNums t331).toList then (if t329 = t332 then (if t330 = t333 then (if (t336 == t339) = true then (if t337 = t340 then (some (t338 == t341)) else (some false)) else (some false)) else (some false)) else (some false)) else (some false)) else (some false))) else (none)))) else (some false))) else (none))) else (none)))) = some true := by rw [if_pos rfl] at H; first | done | exact H
        clear H
        have H := H1
        clear H1
        replace H := Option.bind_eq_some_iff.mp H
        obtain ⟨t347, A190, H⟩ := H
        replace H : ((bytes_Clone.f l2).bind fun t350 => (if a0.size < 140737488355328 then ((cressetref01_Bytes.f kj7 (bytesOf a0)).bind fun t357 => (if t350.length + t357.length < 140737488355328 then ((bytes_Equal.f t347 (t350 ++ t357)).bind fun t363 => (if t363 = true then ((codec_PutFlag.f kj7 l2 a1).bind fun t364 => ((bytes_Clone.f l2).bind fun t367 => (if t367.length + x19_7.length < 140737488355328 then ((bytes_Equal.f t364 (t367 ++ x19_7)).bind fun t373 => (if t373 = true then (if t328.toList = (strOfNums t331).toList then (if t329 = t332 then (if t330 = t333 then (if (t336 == t339) = true then (if t337 = t340 then (some (t338 == t341)) else (some false)) else (some false)) else (some false)) else (some false)) else (some false)) else (some false))) else (none)))) else (some false))) else (none))) else (none))) = some true := H
        have A19 := Aside0.mk A190
        clear A190
        replace H := Option.bind_eq_some_iff.mp H
        obtain ⟨t350, A200, H⟩ := H
        replace H : (if a0.size < 140737488355328 then ((cressetref01_Bytes.f kj7 (bytesOf a0)).bind fun t357 => (if t350.length + t357.length < 140737488355328 then ((bytes_Equal.f t347 (t350 ++ t357)).bind fun t363 => (if t363 = true then ((codec_PutFlag.f kj7 l2 a1).bind fun t364 => ((bytes_Clone.f l2).bind fun t367 => (if t367.length + x19_7.length < 140737488355328 then ((bytes_Equal.f t364 (t367 ++ x19_7)).bind fun t373 => (if t373 = true then (if t328.toList = (strOfNums t331).toList then (if t329 = t332 then (if t330 = t333 then (if (t336 == t339) = true then (if t337 = t340 then (some (t338 == t341)) else (some false)) else (some false)) else (some false)) else (some false)) else (some false)) else (some false))) else (none)))) else (some false))) else (none))) else (none)) = some true := H
        have A20 := Aside0.mk A200
        clear A200
        by_cases c21 : a0.size < 140737488355328
        · rw [if_pos c21] at H
          have LMc21 := Aside0.mk c21
          clear c21
          obtain ⟨y353, hy353⟩ : ∃ y_ : List Int, y_ = (bytesOf a0) := ⟨_, rfl⟩
          replace H : ((cressetref01_Bytes.f kj7 y353).bind fun t357 => (if t350.length + t357.length < 140737488355328 then ((bytes_Equal.f t347 (t350 ++ t357)).bind fun t363 => (if t363 = true then ((codec_PutFlag.f kj7 l2 a1).bind fun t364 => ((bytes_Clone.f l2).bind fun t367 => (if t367.length + x19_7.length < 140737488355328 then ((bytes_Equal.f t364 (t367 ++ x19_7)).bind fun t373 => (if t373 = true then (if t328.toList = (strOfNums t331).toList then (if t329 = t332 then (if t330 = t333 then (if (t336 == t339) = true then (if t337 = t340 then (some (t338 == t341)) else (some false)) else (some false)) else (some false)) else (some false)) else (some false)) else (some false))) else (none)))) else (some false))) else (none))) = some true := by first | (rw [hy353]; with_reducible exact H) | (have H2_ := (Option.bind_some _ _).symm.trans H; rw [hy353]; with_reducible exact H2_) | (have H2_ := (Option.bind_some _ _).symm.trans H; with_reducible exact H2_) | with_reducible exact H | (rw [hy353]; exact H) | exact H
          have Ny353 := Aside0.mk hy353
          clear hy353
          replace H := Option.bind_eq_some_iff.mp H
          obtain ⟨t357, A220, H⟩ := H
          replace H : (if t350.length + t357.length < 140737488355328 then ((bytes_Equal.f t347 (t350 ++ t357)).bind fun t363 => (if t363 = true then ((codec_PutFlag.f kj7 l2 a1).bind fun t364 => ((bytes_Clone.f l2).bind fun t367 => (if t367.length + x19_7.length < 140737488355328 then ((bytes_Equal.f t364 (t367 ++ x19_7)).bind fun t373 => (if t373 = true then (if t328.toList = (strOfNums t331).toList then (if t329 = t332 then (if t330 = t333 then (if (t336 == t339) = true then (if t337 = t340 then (some (t338 == t341)) else (some false)) else (some false)) else (some false)) else (some false)) else (some false)) else (some false))) else (none)))) else (some false))) else (none)) = some true := H
          have A22 := Aside0.mk A220
          clear A220
          by_cases c23 : t350.length + t357.length < 140737488355328
          · rw [if_pos c23] at H
            have LMc23 := Aside0.mk c23
            clear c23
            obtain ⟨y360, hy360⟩ : ∃ y_ : List Int, y_ = (t350 ++ t357) := ⟨_, rfl⟩
            replace H : ((bytes_Equal.f t347 y360).bind fun t363 => (if t363 = true then ((codec_PutFlag.f kj7 l2 a1).bind fun t364 => ((bytes_Clone.f l2).bind fun t367 => (if t367.length + x19_7.length < 140737488355328 then ((bytes_Equal.f t364 (t367 ++ x19_7)).bind fun t373 => (if t373 = true then (if t328.toList = (strOfNums t331).toList then (if t329 = t332 then (if t330 = t333 then (if (t336 == t339) = true then (if t337 = t340 then (some (t338 == t341)) else (some false)) else (some false)) else (some false)) else (some false)) else (some false)) else (some false))) else (none)))) else (some false))) = some true := by first | (rw [hy360]; with_reducible exact H) | (have H2_ := (Option.bind_some _ _).symm.trans H; rw [hy360]; with_reducible exact H2_) | (have H2_ := (Option.bind_some _ _).symm.trans H; with_reducible exact H2_) | with_reducible exact H | (rw [hy360]; exact H) | exact H
            have Ny360 := Aside0.mk hy360
            clear hy360
            replace H := Option.bind_eq_some_iff.mp H
            obtain ⟨t363, A240, H⟩ := H
            replace H : (if t363 = true then ((codec_PutFlag.f kj7 l2 a1).bind fun t364 => ((bytes_Clone.f l2).bind fun t367 => (if t367.length + x19_7.length < 140737488355328 then ((bytes_Equal.f t364 (t367 ++ x19_7)).bind fun t373 => (if t373 = true then (if t328.toList = (strOfNums t331).toList then (if t329 = t332 then (if t330 = t333 then (if (t336 == t339) = true then (if t337 = t340 then (some (t338 == t341)) else (some false)) else (some false)) else (some false)) else (some false)) else (some false)) else (some false))) else (none)))) else (some false)) = some true := H
            have A24 := Aside0.mk A240
            clear A240
            by_cases c25 : t363 = true
            · subst c25
              have H1 : ((codec_PutFlag.f kj7 l2 a1).bind fun t364 => ((bytes_Clone.f l2).bind fun t367 => (if t367.length + x19_7.length < 140737488355328 then ((bytes_Equal.f t364 (t367 ++ x19_7)).bind fun t373 => (if t373 = true then (if t328.toList = (strOfNums t331).toList then (if t329 = t332 then (if t330 = t333 then (if (t336 == t339) = true then (if t337 = t340 then (some (t338 == t341)) else (some false)) else (some false)) else (some false)) else (some false)) else (some false)) else (some false))) else (none)))) = some true := by rw [if_pos rfl] at H; first | done | exact H
              clear H
              have H := H1
              clear H1
              replace H := Option.bind_eq_some_iff.mp H
              obtain ⟨t364, A260, H⟩ := H
              replace H : ((bytes_Clone.f l2).bind fun t367 => (if t367.length + x19_7.length < 140737488355328 then ((bytes_Equal.f t364 (t367 ++ x19_7)).bind fun t373 => (if t373 = true then (if t328.toList = (strOfNums t331).toList then (if t329 = t332 then (if t330 = t333 then (if (t336 == t339) = true then (if t337 = t340 then (some (t338 == t341)) else (some false)) else (some false)) else (some false)) else (some false)) else (some false)) else (some false))) else (none))) = some true := H
              have A26 := Aside0.mk A260
              clear A260
              replace H := Option.bind_eq_some_iff.mp H
              obtain ⟨t367, A270, H⟩ := H
              replace H : (if t367.length + x19_7.length < 140737488355328 then ((bytes_Equal.f t364 (t367 ++ x19_7)).bind fun t373 => (if t373 = true then (if t328.toList = (strOfNums t331).toList then (if t329 = t332 then (if t330 = t333 then (if (t336 == t339) = true then (if t337 = t340 then (some (t338 == t341)) else (some false)) else (some false)) else (some false)) else (some false)) else (some false)) else (some false))) else (none)) = some true := H
              have A27 := Aside0.mk A270
              clear A270
              by_cases c28 : t367.length + x19_7.length < 140737488355328
              · rw [if_pos c28] at H
                have LMc28 := Aside0.mk c28
                clear c28
                obtain ⟨y370, hy370⟩ : ∃ y_ : List Int, y_ = (t367 ++ x19_7) := ⟨_, rfl⟩
                replace H : ((bytes_Equal.f t364 y370).bind fun t373 => (if t373 = true then (if t328.toList = (strOfNums t331).toList then (if t329 = t332 then (if t330 = t333 then (if (t336 == t339) = true then (if t337 = t340 then (some (t338 == t341)) else (some false)) else (some false)) else (some false)) else (some false)) else (some false)) else (some false))) = some true := by first | (rw [hy370]; with_reducible exact H) | (have H2_ := (Option.bind_some _ _).symm.trans H; rw [hy370]; with_reducible exact H2_) | (have H2_ := (Option.bind_some _ _).symm.trans H; with_reducible exact H2_) | with_reducible exact H | (rw [hy370]; exact H) | exact H
                have Ny370 := Aside0.mk hy370
                clear hy370
                replace H := Option.bind_eq_some_iff.mp H
                obtain ⟨t373, A290, H⟩ := H
                replace H : (if t373 = true then (if t328.toList = (strOfNums t331).toList then (if t329 = t332 then (if t330 = t333 then (if (t336 == t339) = true then (if t337 = t340 then (some (t338 == t341)) else (some false)) else (some false)) else (some false)) else (some false)) else (some false)) else (some false)) = some true := H
                have A29 := Aside0.mk A290
                clear A290
                by_cases c30 : t373 = true
                · subst c30
                  have H1 : (if t328.toList = (strOfNums t331).toList then (if t329 = t332 then (if t330 = t333 then (if (t336 == t339) = true then (if t337 = t340 then (some (t338 == t341)) else (some false)) else (some false)) else (some false)) else (some false)) else (some false)) = some true := by rw [if_pos rfl] at H; first | done | exact H
                  clear H
                  have H := H1
                  clear H1
                  by_cases c31 : t328.toList = (strOfNums t331).toList
                  · rw [if_pos c31] at H
                    have c31b0 : (t328.toList == (strOfNums t331).toList) = true := beq_iff_eq.mpr c31
                    have c31b1 : (t328.toList != (strOfNums t331).toList) = false := bne_eq_false_iff_eq.mpr c31
                    clear c31
                    by_cases c32 : t329 = t332
                    · rw [if_pos c32] at H
                      have c32b0 : (t329 == t332) = true := beq_iff_eq.mpr c32
                      have c32b1 : (t329 != t332) = false := bne_eq_false_iff_eq.mpr c32
                      clear c32
                      by_cases c33 : t330 = t333
                      · rw [if_pos c33] at H
                        have c33b0 : (t330 == t333) = true := beq_iff_eq.mpr c33
                        have c33b1 : (t330 != t333) = false := bne_eq_false_iff_eq.mpr c33
                        clear c33
                        by_cases c34 : (t336 == t339) = true
                        · rw [if_pos c34] at H
                          have c34b0 : (t336 == t339) = true := c34
                          (try (have c34b1 : decide (t336 = t339) = true := by simpa using c34))
                          (try (have c34b2 : (t336 == t339) = true := by simpa using c34))
                          clear c34
                          by_cases c35 : t337 = t340
                          · rw [if_pos c35] at H
                            have c35b0 : (t337 == t340) = true := beq_iff_eq.mpr c35
                            have c35b1 : (t337 != t340) = false := bne_eq_false_iff_eq.mpr c35
                            clear c35
                            have HRT := Aside0.mk (Option.some.inj H)
                            clear H
                            go_wp2_with (first | ((with_reducible refine gate_callee (f := 15) rfl ?_); refine goesL_ (some 48) rfl rfl Try.func15 (by kernel_rfl) rfl #[] rfl (by (try simp only [List.map_toArray, List.map_cons, List.map_nil]); first | done | rfl | (simp only [List.length_drop, List.length_take]; rfl)) ?_; (with_reducible refine (cressetlaw01_live.calls kj7  true _ A17.out).mono ?_); rintro e w36 ⟨rfl, hb⟩; refine ⟨_, rfl, ?_⟩; have n0_ := Aside0.mk (Kd.R_below (by (with_reducible repeat (first | apply Kd.R_alloc | apply Kd.R_drewN | apply Kd.R_drew)); exact HO_10.out) hb); have n1_ := Aside0.mk (Kd.R_below (by (with_reducible repeat (first | apply Kd.R_alloc | apply Kd.R_drewN | apply Kd.R_drew)); exact HO_19.out) hb); have n2_ := Aside0.mk (below_step (by repeat (first | (with_reducible first | exact HB.out | apply below_alloc | apply pw_below_drewN | apply below_drew1) | exact HB.out)) hb); clear HO_10; clear HO_19; clear HB; have HO_10 := n0_; have HO_19 := n1_; have HB := n2_; clear n0_ n1_ n2_; (try clear hb); (try clear hb2); (try clear hk); (try clear hi)) | (go_at_call 27; (with_reducible refine (codec_PutText.calls kj7 _ _ l2 a0 t347 _ ?side1 ?side2 A19.out).mono ?_); (case side1 => repeat (first | exact (Kd.C_below HR2.out HB.out) | (with_reducible refine Kd.C_alloc ?_ _) | (with_reducible refine Kd.C_drewN ?_ _) | (with_reducible refine Kd.C_drew ?_))); (case side2 => exact HC2.out); rintro e w37 ⟨v348, rfl, ho0, hb⟩; have n0_ := Aside0.mk (Kd.R_elder' (by (with_reducible repeat (first | apply Kd.R_alloc | apply Kd.R_drewN | apply Kd.R_drew)); exact HO_10.out) (Kd.R_base ho0) hb); have n1_ := Aside0.mk (Kd.R_elder' (by (with_reducible repeat (first | apply Kd.R_alloc | apply Kd.R_drewN | apply Kd.R_drew)); exact HO_19.out) (Kd.R_base ho0) hb); have n2_ := Aside0.mk (Kd.R_lower (Kd.R_new' (Kd.R_new' ho0 (Kd.R_lt (by (with_reducible repeat (first | apply Kd.R_alloc | apply Kd.R_drewN | apply Kd.R_drew)); exact HO_10.out))) (Kd.R_lt (by (with_reducible repeat (first | apply Kd.R_alloc | apply Kd.R_drewN | apply Kd.R_drew)); exact HO_19.out))) (below_size (by repeat (first | (with_reducible first | exact HB.out | apply below_alloc | apply pw_below_drewN | apply below_drew1) | exact HB.out)))); have n3_ := Aside0.mk (below_step (by repeat (first | (with_reducible first | exact HB.out | apply below_alloc | apply pw_below_drewN | apply below_drew1) | exact HB.out)) hb); clear HO_10; clear HO_19; clear HB; have HO_10 := n0_; have HO_19 := n1_; have HO349 := n2_; have HB := n3_; clear n0_ n1_ n2_ n3_; (try clear hb); (try clear hb2); (try clear hk); (try clear hi); (try clear ho0)) | (go_at_call 23; (with_reducible refine (bytes_Clone.calls _ _ l2 t350 _ ?side1 ?side2 A20.out).mono ?_); (case side1 => repeat (first | exact (Kd.C_below HR2.out HB.out) | (with_reducible refine Kd.C_alloc ?_ _) | (with_reducible refine Kd.C_drewN ?_ _) | (with_reducible refine Kd.C_drew ?_))); (case side2 => exact HC2.out); rintro e w38 ⟨v351, rfl, ho0, hb⟩; clear A20; have n0_ := Aside0.mk (Kd.R_elder' (by (with_reducible repeat (first | apply Kd.R_alloc | apply Kd.R_drewN | apply Kd.R_drew)); exact HO_10.out) (Kd.R_base ho0) hb); have n1_ := Aside0.mk (Kd.R_elder' (by (with_reducible repeat (first | apply Kd.R_alloc | apply Kd.R_drewN | apply Kd.R_drew)); exact HO_19.out) (Kd.R_base ho0) hb); have n2_ := Aside0.mk (Kd.R_elder' (by (with_reducible repeat (first | apply Kd.R_alloc | apply Kd.R_drewN | apply Kd.R_drew)); exact HO349.out) (Kd.R_base ho0) hb); have n3_ := Aside0.mk (Kd.R_lower (Kd.R_new' (Kd.R_new' (Kd.R_new' ho0 (Kd.R_lt (by (with_reducible repeat (first | apply Kd.R_alloc | apply Kd.R_drewN | apply Kd.R_drew)); exact HO_10.out))) (Kd.R_lt (by (with_reducible repeat (first | apply Kd.R_alloc | apply Kd.R_drewN | apply Kd.R_drew)); exact HO_19.out))) (Kd.R_lt (by (with_reducible repeat (first | apply Kd.R_alloc | apply Kd.R_drewN | apply Kd.R_drew)); exact HO349.out))) (below_size (by repeat (first | (with_reducible first | exact HB.out | apply below_alloc | apply pw_below_drewN | apply below_drew1) | exact HB.out)))); have n4_ := Aside0.mk (below_step (by repeat (first | (with_reducible first | exact HB.out | apply below_alloc | apply pw_below_drewN | apply below_drew1) | exact HB.out)) hb); clear HO_10; clear HO_19; clear HO349; clear HB; have HO_10 := n0_; have HO_19 := n1_; have HO349 := n2_; have HO352 := n3_; have HB := n4_; clear n0_ n1_ n2_ n3_ n4_; (try clear hb); (try clear hb2); (try clear hk); (try clear hi); (try clear ho0)) | ((with_reducible refine gate_dst (N := 57) rfl ?_); (try (refine gate_guard (by rfl) ?_; dsimp only)); refine conv_event rfl (N := 57) rfl _ 9 23 5 rfl a0 ?hx Try.underlying9 Try.underlying23 Try.underlying5 y353 Ny353.out LMc21.out ?_; (case hx => first | rfl | (go_simp; done) | (go_simp; rfl)); intro A39 c39 w40 hcp hC hb; have n0_ := Aside0.mk (Kd.R_below (by (with_reducible repeat (first | apply Kd.R_alloc | apply Kd.R_drewN | apply Kd.R_drew)); exact HO_10.out) hb); have n1_ := Aside0.mk (Kd.R_below (by (with_reducible repeat (first | apply Kd.R_alloc | apply Kd.R_drewN | apply Kd.R_drew)); exact HO_19.out) hb); have n2_ := Aside0.mk (Kd.R_below (by (with_reducible repeat (first | apply Kd.R_alloc | apply Kd.R_drewN | apply Kd.R_drew)); exact HO349.out) hb); have n3_ := Aside0.mk (Kd.R_below (by (with_reducible repeat (first | apply Kd.R_alloc | apply Kd.R_drewN | apply Kd.R_drew)); exact HO352.out) hb); have n4_ := Aside0.mk (below_step (by repeat (first | (with_reducible first | exact HB.out | apply below_alloc | apply pw_below_drewN | apply below_drew1) | exact HB.out)) hb); have n5_ := Aside0.mk (hC); have n6_ := Aside0.mk (hcp); clear HO_10; clear HO_19; clear HO349; clear HO352; clear HB; have HO_10 := n0_; have HO_19 := n1_; have HO349 := n2_; have HO352 := n3_; have HB := n4_; have HR356 := n5_; have HC356 := n6_; clear n0_ n1_ n2_ n3_ n4_ n5_ n6_; clear hb hC hcp) | (go_at_call 34; (with_reducible refine (cressetref01_Bytes.calls kj7 _ _ y353 t357 _ ?side1 ?side2 A22.out).mono ?_); (case side1 => repeat (first | exact (by repeat (first | (with_reducible exact HR356.out) | (with_reducible refine Kd.C_alloc ?_ _) | (with_reducible refine Kd.C_drewN ?_ _) | (with_reducible refine Kd.C_drew ?_) | exact HR356.out)) | (with_reducible refine Kd.C_alloc ?_ _) | (with_reducible refine Kd.C_drewN ?_ _) | (with_reducible refine Kd.C_drew ?_))); (case side2 => exact HC356.out); rintro e w41 ⟨v358, rfl, ho0, hb⟩; have n0_ := Aside0.mk (Kd.R_elder' (by (with_reducible repeat (first | apply Kd.R_alloc | apply Kd.R_drewN | apply Kd.R_drew)); exact HO_10.out) (Kd.R_base ho0) hb); have n1_ := Aside0.mk (Kd.R_elder' (by (with_reducible repeat (first | apply Kd.R_alloc | apply Kd.R_drewN | apply Kd.R_drew)); exact HO_19.out) (Kd.R_base ho0) hb); have n2_ := Aside0.mk (Kd.R_elder' (by (with_reducible repeat (first | apply Kd.R_alloc | apply Kd.R_drewN | apply Kd.R_drew)); exact HO349.out) (Kd.R_base ho0) hb); have n3_ := Aside0.mk (Kd.R_elder' (by (with_reducible repeat (first | apply Kd.R_alloc | apply Kd.R_drewN | apply Kd.R_drew)); exact HO352.out) (Kd.R_base ho0) hb); have n4_ := Aside0.mk (Kd.R_lower (Kd.R_new' (Kd.R_new' (Kd.R_new' (Kd.R_new' ho0 (Kd.R_lt (by (with_reducible repeat (first | apply Kd.R_alloc | apply Kd.R_drewN | apply Kd.R_drew)); exact HO_10.out))) (Kd.R_lt (by (with_reducible repeat (first | apply Kd.R_alloc | apply Kd.R_drewN | apply Kd.R_drew)); exact HO_19.out))) (Kd.R_lt (by (with_reducible repeat (first | apply Kd.R_alloc | apply Kd.R_drewN | apply Kd.R_drew)); exact HO349.out))) (Kd.R_lt (by (with_reducible repeat (first | apply Kd.R_alloc | apply Kd.R_drewN | apply Kd.R_drew)); exact HO352.out))) (below_size (by repeat (first | (with_reducible first | exact HB.out | apply below_alloc | apply pw_below_drewN | apply below_drew1) | exact HB.out)))); have n5_ := Aside0.mk (Kd.C_below (by repeat (first | (with_reducible exact HR356.out) | (with_reducible refine Kd.C_alloc ?_ _) | (with_reducible refine Kd.C_drewN ?_ _) | (with_reducible refine Kd.C_drew ?_) | exact HR356.out)) hb); have n6_ := Aside0.mk (below_step (by repeat (first | (with_reducible first | exact HB.out | apply below_alloc | apply pw_below_drewN | apply below_drew1) | exact HB.out)) hb); clear HO_10; clear HO_19; clear HO349; clear HO352; clear HR356; clear HB; have HO_10 := n0_; have HO_19 := n1_; have HO349 := n2_; have HO352 := n3_; have HO359 := n4_; have HR356 := n5_; have HB := n6_; clear n0_ n1_ n2_ n3_ n4_ n5_ n6_; (try clear hb); (try clear hb2); (try clear hk); (try clear hi); (try clear ho0); obtain ⟨Ao43, co43, eo43⟩ := Kd.R_slice HO359.out; subst eo43) | ((with_reducible refine gate_builtin (b := .append) (xs := #[.tmp 55, .tmp 58]) rfl ?_); (try (refine gate_guard (by rfl) ?_; dsimp only)); at_builtin; refine Kd.R_append_rows (Kd.int .u8) (w0 := w) w.heap.size rfl (.tmp 55) (.tmp 58) 23 5 (.int .u8 0) 1 rfl Try.underlying23 info5 rfl (by decide) (by omega) v351 t350 t357 _ _ _ (fun k_ => some k_ ≠ (v334 : Value).ownBlock ∧ some k_ ≠ (v343 : Value).ownBlock ∧ some k_ ≠ (v348 : Value).ownBlock ∧ some k_ ≠ (.slice Ao43 t357.length co43 : Value).ownBlock) (fun _ => False) rfl rfl ?aO ?aR (fun _ _ h => h) (fun _ h => h.elim) ?aF ?aB ?aS ?aL ?_; (case aR => repeat (first | exact (Kd.R_reads' HO359.out).2.2 | (with_reducible refine Kd.C_alloc ?_ _) | (with_reducible refine Kd.C_drewN ?_ _) | (with_reducible refine Kd.C_drew ?_))); (case aB => exact (by repeat (first | (with_reducible first | exact HB.out | apply below_alloc | apply pw_below_drewN | apply below_drew1) | exact HB.out))); (case aF => exact (fun k_ hk => ⟨Kd.fresh' (Kd.R_lt (by (with_reducible repeat (first | apply Kd.R_alloc | apply Kd.R_drewN | apply Kd.R_drew)); exact HO_10.out)) k_ hk, Kd.fresh' (Kd.R_lt (by (with_reducible repeat (first | apply Kd.R_alloc | apply Kd.R_drewN | apply Kd.R_drew)); exact HO_19.out)) k_ hk, Kd.fresh' (Kd.R_lt (by (with_reducible repeat (first | apply Kd.R_alloc | apply Kd.R_drewN | apply Kd.R_drew)); exact HO349.out)) k_ hk, Kd.fresh' (Kd.R_lt (by (with_reducible repeat (first | apply Kd.R_alloc | apply Kd.R_drewN | apply Kd.R_drew)); exact HO359.out)) k_ hk⟩)); (case aO => exact (by (with_reducible repeat (first | apply Kd.R_alloc | apply Kd.R_drewN | apply Kd.R_drew)); exact Kd.R_mono HO352.out (fun _ hk => ⟨hk.1.1.1.2, ⟨hk.1.1.2, ⟨hk.1.2, hk.2⟩⟩⟩))); (case aS => exact (below_size (by repeat (first | (with_reducible first | exact HB.out | apply below_alloc | apply pw_below_drewN | apply below_drew1) | exact HB.out)))); (case aL => have := LMc23.out; omega); intro v361 w42 ho hb hg hat; rw [← Ny360.out] at ho; have n0_ := Aside0.mk (Kd.R_after (ok := (fun k_ => some k_ ≠ (v343 : Value).ownBlock ∧ some k_ ≠ (v348 : Value).ownBlock ∧ some k_ ≠ (.slice Ao43 t357.length co43 : Value).ownBlock)) (by (with_reducible repeat (first | apply Kd.R_alloc | apply Kd.R_drewN | apply Kd.R_drew)); exact Kd.R_mono HO_10.out (fun _ hk => ⟨⟨hk.1.1.1, ⟨hk.1.1.2, hk.2⟩⟩, hk.1.2⟩)) hg hat); have n1_ := Aside0.mk (Kd.R_after (ok := (fun k_ => some k_ ≠ (v334 : Value).ownBlock ∧ some k_ ≠ (v348 : Value).ownBlock ∧ some k_ ≠ (.slice Ao43 t357.length co43 : Value).ownBlock)) (by (with_reducible repeat (first | apply Kd.R_alloc | apply Kd.R_drewN | apply Kd.R_drew)); exact Kd.R_mono HO_19.out (fun _ hk => ⟨⟨hk.1.1.1, ⟨hk.1.1.2, hk.2⟩⟩, hk.1.2⟩)) hg hat); have n2_ := Aside0.mk (Kd.R_after (ok := (fun k_ => some k_ ≠ (v334 : Value).ownBlock ∧ some k_ ≠ (v343 : Value).ownBlock ∧ some k_ ≠ (.slice Ao43 t357.length co43 : Value).ownBlock)) (by (with_reducible repeat (first | apply Kd.R_alloc | apply Kd.R_drewN | apply Kd.R_drew)); exact Kd.R_mono HO349.out (fun _ hk => ⟨⟨hk.1.1.1.2, ⟨hk.1.1.2, hk.2⟩⟩, hk.1.2⟩)) hg hat); have n3_ := Aside0.mk (Kd.R_after (ok := (fun k_ => some k_ ≠ (v334 : Value).ownBlock ∧ some k_ ≠ (v343 : Value).ownBlock ∧ some k_ ≠ (v348 : Value).ownBlock)) (by (with_reducible repeat (first | apply Kd.R_alloc | apply Kd.R_drewN | apply Kd.R_drew)); exact Kd.R_mono HO359.out (fun _ hk => ⟨⟨hk.1.1.1.2, ⟨hk.1.1.2, hk.1.2⟩⟩, hk.2⟩)) hg hat); have n4_ := Aside0.mk (hb); have n5_ := Aside0.mk (ho); clear HO_10; clear HO_19; clear HO349; clear HO359; clear HB; clear HO352; have HO_10 := n0_; have HO_19 := n1_; have HO349 := n2_; have HO359 := n3_; have HB := n4_; have HO362 := n5_; clear n0_ n1_ n2_ n3_ n4_ n5_; clear ho hb hg hat; obtain ⟨Ao44, co44, eo44⟩ := Kd.R_slice HO349.out; subst eo44; obtain ⟨Ao45, co45, eo45⟩ := Kd.R_slice HO362.out; subst eo45) | (go_at_call 21; (with_reducible refine (bytes_Equal.calls _ _ t347 _ _ y360 true _ ?side1 ?side2 ?side3 ?side4 A24.out).mono ?_); (case side1 => repeat (first | exact (Kd.R_reads' HO349.out).2.2 | (with_reducible refine Kd.C_alloc ?_ _) | (with_reducible refine Kd.C_drewN ?_ _) | (with_reducible refine Kd.C_drew ?_))); (case side2 => exact (Kd.R_reads' HO349.out).2.1); (case side3 => repeat (first | exact (Kd.R_reads' HO362.out).2.2 | (with_reducible refine Kd.C_alloc ?_ _) | (with_reducible refine Kd.C_drewN ?_ _) | (with_reducible refine Kd.C_drew ?_))); (case side4 => exact (Kd.R_reads' HO362.out).2.1); rintro e w' ⟨rfl, ⟨nd, rfl⟩⟩) | (go_at_call 30; (with_reducible refine (codec_PutFlag.calls kj7 _ _ l2 a1 t364 _ ?side1 ?side2 A26.out).mono ?_); (case side1 => repeat (first | exact (Kd.C_below HR2.out (by repeat (first | (with_reducible first | exact HB.out | apply below_alloc | apply pw_below_drewN | apply below_drew1) | exact HB.out))) | (with_reducible refine Kd.C_alloc ?_ _) | (with_reducible refine Kd.C_drewN ?_ _) | (with_reducible refine Kd.C_drew ?_))); (case side2 => exact HC2.out); rintro e w46 ⟨v365, rfl, ho0, hb⟩; have n0_ := Aside0.mk (Kd.R_elder' (by (with_reducible repeat (first | apply Kd.R_alloc | apply Kd.R_drewN | apply Kd.R_drew)); exact HO_10.out) (Kd.R_base ho0) hb); have n1_ := Aside0.mk (Kd.R_elder' (by (with_reducible repeat (first | apply Kd.R_alloc | apply Kd.R_drewN | apply Kd.R_drew)); exact HO_19.out) (Kd.R_base ho0) hb); have n2_ := Aside0.mk (Kd.R_elder' (by (with_reducible repeat (first | apply Kd.R_alloc | apply Kd.R_drewN | apply Kd.R_drew)); exact HO349.out) (Kd.R_base ho0) hb); have n3_ := Aside0.mk (Kd.R_elder' (by (with_reducible repeat (first | apply Kd.R_alloc | apply Kd.R_drewN | apply Kd.R_drew)); exact HO359.out) (Kd.R_base ho0) hb); have n4_ := Aside0.mk (Kd.R_elder' (by (with_reducible repeat (first | apply Kd.R_alloc | apply Kd.R_drewN | apply Kd.R_drew)); exact HO362.out) (Kd.R_base ho0) hb); have n5_ := Aside0.mk (Kd.R_lower (Kd.R_new' (Kd.R_new' (Kd.R_new' (Kd.R_new' (Kd.R_new' ho0 (Kd.R_lt (by (with_reducible repeat (first | apply Kd.R_alloc | apply Kd.R_drewN | apply Kd.R_drew)); exact HO_10.out))) (Kd.R_lt (by (with_reducible repeat (first | apply Kd.R_alloc | apply Kd.R_drewN | apply Kd.R_drew)); exact HO_19.out))) (Kd.R_lt (by (with_reducible repeat (first | apply Kd.R_alloc | apply Kd.R_drewN | apply Kd.R_drew)); exact HO349.out))) (Kd.R_lt (by (with_reducible repeat (first | apply Kd.R_alloc | apply Kd.R_drewN | apply Kd.R_drew)); exact HO359.out))) (Kd.R_lt (by (with_reducible repeat (first | apply Kd.R_alloc | apply Kd.R_drewN | apply Kd.R_drew)); exact HO362.out))) (below_size (by repeat (first | (with_reducible first | exact HB.out | apply below_alloc | apply pw_below_drewN | apply below_drew1) | exact HB.out)))); have n6_ := Aside0.mk (below_step (by repeat (first | (with_reducible first | exact HB.out | apply below_alloc | apply pw_below_drewN | apply below_drew1) | exact HB.out)) hb); clear HO_10; clear HO_19; clear HO349; clear HO359; clear HO362; clear HB; have HO_10 := n0_; have HO_19 := n1_; have HO349 := n2_; have HO359 := n3_; have HO362 := n4_; have HO366 := n5_; have HB := n6_; clear n0_ n1_ n2_ n3_ n4_ n5_ n6_; (try clear hb); (try clear hb2); (try clear hk); (try clear hi); (try clear ho0)) | (go_at_call 23; (with_reducible refine (bytes_Clone.calls _ _ l2 t367 _ ?side1 ?side2 A27.out).mono ?_); (case side1 => repeat (first | exact (Kd.C_below HR2.out HB.out) | (with_reducible refine Kd.C_alloc ?_ _) | (with_reducible refine Kd.C_drewN ?_ _) | (with_reducible refine Kd.C_drew ?_))); (case side2 => exact HC2.out); rintro e w47 ⟨v368, rfl, ho0, hb⟩; clear A27; have n0_ := Aside0.mk (Kd.R_elder' (by (with_reducible repeat (first | apply Kd.R_alloc | apply Kd.R_drewN | apply Kd.R_drew)); exact HO_10.out) (Kd.R_base ho0) hb); have n1_ := Aside0.mk (Kd.R_elder' (by (with_reducible repeat (first | apply Kd.R_alloc | apply Kd.R_drewN | apply Kd.R_drew)); exact HO_19.out) (Kd.R_base ho0) hb); have n2_ := Aside0.mk (Kd.R_elder' (by (with_reducible repeat (first | apply Kd.R_alloc | apply Kd.R_drewN | apply Kd.R_drew)); exact HO349.out) (Kd.R_base ho0) hb); have n3_ := Aside0.mk (Kd.R_elder' (by (with_reducible repeat (first | apply Kd.R_alloc | apply Kd.R_drewN | apply Kd.R_drew)); exact HO359.out) (Kd.R_base ho0) hb); have n4_ := Aside0.mk (Kd.R_elder' (by (with_reducible repeat (first | apply Kd.R_alloc | apply Kd.R_drewN | apply Kd.R_drew)); exact HO362.out) (Kd.R_base ho0) hb); have n5_ := Aside0.mk (Kd.R_elder' (by (with_reducible repeat (first | apply Kd.R_alloc | apply Kd.R_drewN | apply Kd.R_drew)); exact HO366.out) (Kd.R_base ho0) hb); have n6_ := Aside0.mk (Kd.R_lower (Kd.R_new' (Kd.R_new' (Kd.R_new' (Kd.R_new' (Kd.R_new' (Kd.R_new' ho0 (Kd.R_lt (by (with_reducible repeat (first | apply Kd.R_alloc | apply Kd.R_drewN | apply Kd.R_drew)); exact HO_10.out))) (Kd.R_lt (by (with_reducible repeat (first | apply Kd.R_alloc | apply Kd.R_drewN | apply Kd.R_drew)); exact HO_19.out))) (Kd.R_lt (by (with_reducible repeat (first | apply Kd.R_alloc | apply Kd.R_drewN | apply Kd.R_drew)); exact HO349.out))) (Kd.R_lt (by (with_reducible repeat (first | apply Kd.R_alloc | apply Kd.R_drewN | apply Kd.R_drew)); exact HO359.out))) (Kd.R_lt (by (with_reducible repeat (first | apply Kd.R_alloc | apply Kd.R_drewN | apply Kd.R_drew)); exact HO362.out))) (Kd.R_lt (by (with_reducible repeat (first | apply Kd.R_alloc | apply Kd.R_drewN | apply Kd.R_drew)); exact HO366.out))) (below_size (by repeat (first | (with_reducible first | exact HB.out | apply below_alloc | apply pw_below_drewN | apply below_drew1) | exact HB.out)))); have n7_ := Aside0.mk (below_step (by repeat (first | (with_reducible first | exact HB.out | apply below_alloc | apply pw_below_drewN | apply below_drew1) | exact HB.out)) hb); clear HO_10; clear HO_19; clear HO349; clear HO359; clear HO362; clear HO366; clear HB; have HO_10 := n0_; have HO_19 := n1_; have HO349 := n2_; have HO359 := n3_; have HO362 := n4_; have HO366 := n5_; have HO369 := n6_; have HB := n7_; clear n0_ n1_ n2_ n3_ n4_ n5_ n6_ n7_; (try clear hb); (try clear hb2); (try clear hk); (try clear hi); (try clear ho0); obtain ⟨Ao49, co49, eo49⟩ := Kd.R_slice HO_19.out; subst eo49) | ((with_reducible refine gate_builtin (b := .append) (xs := #[.tmp 68, .tmp 69]) rfl ?_); (try (refine gate_guard (by rfl) ?_; dsimp only)); at_builtin; refine Kd.R_append_rows (Kd.int .u8) (w0 := w) w.heap.size rfl (.tmp 68) (.tmp 69) 23 5 (.int .u8 0) 1 rfl Try.underlying23 info5 rfl (by decide) (by omega) v368 t367 x19_7 _ _ _ (fun k_ => some k_ ≠ (v334 : Value).ownBlock ∧ some k_ ≠ (.slice Ao49 x19_7.length co49 : Value).ownBlock ∧ some k_ ≠ (.slice Ao44 t347.length co44 : Value).ownBlock ∧ some k_ ≠ (.slice Ao43 t357.length co43 : Value).ownBlock ∧ some k_ ≠ (.slice Ao45 y360.length co45 : Value).ownBlock ∧ some k_ ≠ (v365 : Value).ownBlock) (fun _ => False) rfl rfl ?aO ?aR (fun _ _ h => h) (fun _ h => h.elim) ?aF ?aB ?aS ?aL ?_; (case aR => repeat (first | exact (Kd.R_reads' HO_19.out).2.2 | (with_reducible refine Kd.C_alloc ?_ _) | (with_reducible refine Kd.C_drewN ?_ _) | (with_reducible refine Kd.C_drew ?_))); (case aB => exact (by repeat (first | (with_reducible first | exact HB.out | apply below_alloc | apply pw_below_drewN | apply below_drew1) | exact HB.out))); (case aF => exact (fun k_ hk => ⟨Kd.fresh' (Kd.R_lt (by (with_reducible repeat (first | apply Kd.R_alloc | apply Kd.R_drewN | apply Kd.R_drew)); exact HO_10.out)) k_ hk, Kd.fresh' (Kd.R_lt (by (with_reducible repeat (first | apply Kd.R_alloc | apply Kd.R_drewN | apply Kd.R_drew)); exact HO_19.out)) k_ hk, Kd.fresh' (Kd.R_lt (by (with_reducible repeat (first | apply Kd.R_alloc | apply Kd.R_drewN | apply Kd.R_drew)); exact HO349.out)) k_ hk, Kd.fresh' (Kd.R_lt (by (with_reducible repeat (first | apply Kd.R_alloc | apply Kd.R_drewN | apply Kd.R_drew)); exact HO359.out)) k_ hk, Kd.fresh' (Kd.R_lt (by (with_reducible repeat (first | apply Kd.R_alloc | apply Kd.R_drewN | apply Kd.R_drew)); exact HO362.out)) k_ hk, Kd.fresh' (Kd.R_lt (by (with_reducible repeat (first | apply Kd.R_alloc | apply Kd.R_drewN | apply Kd.R_drew)); exact HO366.out)) k_ hk⟩)); (case aO => exact (by (with_reducible repeat (first | apply Kd.R_alloc | apply Kd.R_drewN | apply Kd.R_drew)); exact Kd.R_mono HO369.out (fun _ hk => ⟨hk.1.1.1.1.1.2, ⟨hk.1.1.1.1.2, ⟨hk.1.1.1.2, ⟨hk.1.1.2, ⟨hk.1.2, hk.2⟩⟩⟩⟩⟩))); (case aS => exact (below_size (by repeat (first | (with_reducible first | exact HB.out | apply below_alloc | apply pw_below_drewN | apply below_drew1) | exact HB.out)))); (case aL => have := LMc28.out; omega); intro v371 w48 ho hb hg hat; rw [← Ny370.out] at ho; have n0_ := Aside0.mk (Kd.R_after (ok := (fun k_ => some k_ ≠ (.slice Ao49 x19_7.length co49 : Value).ownBlock ∧ some k_ ≠ (.slice Ao44 t347.length co44 : Value).ownBlock ∧ some k_ ≠ (.slice Ao43 t357.length co43 : Value).ownBlock ∧ some k_ ≠ (.slice Ao45 y360.length co45 : Value).ownBlock ∧ some k_ ≠ (v365 : Value).ownBlock)) (by (with_reducible repeat (first | apply Kd.R_alloc | apply Kd.R_drewN | apply Kd.R_drew)); exact Kd.R_mono HO_10.out (fun _ hk => ⟨⟨hk.1.1.1.1, ⟨hk.1.1.1.2.1, ⟨hk.1.1.1.2.2, ⟨hk.1.1.2, hk.1.2⟩⟩⟩⟩, hk.2⟩)) hg hat); have n1_ := Aside0.mk (Kd.R_after (ok := (fun k_ => some k_ ≠ (v334 : Value).ownBlock ∧ some k_ ≠ (.slice Ao44 t347.length co44 : Value).ownBlock ∧ some k_ ≠ (.slice Ao43 t357.length co43 : Value).ownBlock ∧ some k_ ≠ (.slice Ao45 y360.length co45 : Value).ownBlock ∧ some k_ ≠ (v365 : Value).ownBlock)) (by (with_reducible repeat (first | apply Kd.R_alloc | apply Kd.R_drewN | apply Kd.R_drew)); exact Kd.R_mono HO_19.out (fun _ hk => ⟨⟨hk.1.1.1.1, ⟨hk.1.1.1.2.1, ⟨hk.1.1.1.2.2, ⟨hk.1.1.2, hk.1.2⟩⟩⟩⟩, hk.2⟩)) hg hat); have n2_ := Aside0.mk (Kd.R_after (ok := (fun k_ => some k_ ≠ (v334 : Value).ownBlock ∧ some k_ ≠ (.slice Ao49 x19_7.length co49 : Value).ownBlock ∧ some k_ ≠ (.slice Ao43 t357.length co43 : Value).ownBlock ∧ some k_ ≠ (.slice Ao45 y360.length co45 : Value).ownBlock ∧ some k_ ≠ (v365 : Value).ownBlock)) (by (with_reducible repeat (first | apply Kd.R_alloc | apply Kd.R_drewN | apply Kd.R_drew)); exact Kd.R_mono HO349.out (fun _ hk => ⟨⟨hk.1.1.1.1, ⟨hk.1.1.1.2.1, ⟨hk.1.1.1.2.2, ⟨hk.1.1.2, hk.1.2⟩⟩⟩⟩, hk.2⟩)) hg hat); have n3_ := Aside0.mk (Kd.R_after (ok := (fun k_ => some k_ ≠ (v334 : Value).ownBlock ∧ some k_ ≠ (.slice Ao49 x19_7.length co49 : Value).ownBlock ∧ some k_ ≠ (.slice Ao44 t347.length co44 : Value).ownBlock ∧ some k_ ≠ (.slice Ao45 y360.length co45 : Value).ownBlock ∧ some k_ ≠ (v365 : Value).ownBlock)) (by (with_reducible repeat (first | apply Kd.R_alloc | apply Kd.R_drewN | apply Kd.R_drew)); exact Kd.R_mono HO359.out (fun _ hk => ⟨⟨hk.1.1.1.1, ⟨hk.1.1.1.2.1, ⟨hk.1.1.1.2.2, ⟨hk.1.1.2, hk.1.2⟩⟩⟩⟩, hk.2⟩)) hg hat); have n4_ := Aside0.mk (Kd.R_after (ok := (fun k_ => some k_ ≠ (v334 : Value).ownBlock ∧ some k_ ≠ (.slice Ao49 x19_7.length co49 : Value).ownBlock ∧ some k_ ≠ (.slice Ao44 t347.length co44 : Value).ownBlock ∧ some k_ ≠ (.slice Ao43 t357.length co43 : Value).ownBlock ∧ some k_ ≠ (v365 : Value).ownBlock)) (by (with_reducible repeat (first | apply Kd.R_alloc | apply Kd.R_drewN | apply Kd.R_drew)); exact Kd.R_mono HO362.out (fun _ hk => ⟨⟨hk.1.1.1, ⟨hk.1.1.2.1, ⟨hk.1.1.2.2.1, ⟨hk.1.1.2.2.2, hk.1.2⟩⟩⟩⟩, hk.2⟩)) hg hat); have n5_ := Aside0.mk (Kd.R_after (ok := (fun k_ => some k_ ≠ (v334 : Value).ownBlock ∧ some k_ ≠ (.slice Ao49 x19_7.length co49 : Value).ownBlock ∧ some k_ ≠ (.slice Ao44 t347.length co44 : Value).ownBlock ∧ some k_ ≠ (.slice Ao43 t357.length co43 : Value).ownBlock ∧ some k_ ≠ (.slice Ao45 y360.length co45 : Value).ownBlock)) (by (with_reducible repeat (first | apply Kd.R_alloc | apply Kd.R_drewN | apply Kd.R_drew)); exact Kd.R_mono HO366.out (fun _ hk => ⟨⟨hk.1.1.1.1.1.2, ⟨hk.1.1.1.1.2, ⟨hk.1.1.1.2, ⟨hk.1.1.2, hk.1.2⟩⟩⟩⟩, hk.2⟩)) hg hat); have n6_ := Aside0.mk (hb); have n7_ := Aside0.mk (ho); clear HO_10; clear HO_19; clear HO349; clear HO359; clear HO362; clear HO366; clear HB; clear HO369; have HO_10 := n0_; have HO_19 := n1_; have HO349 := n2_; have HO359 := n3_; have HO362 := n4_; have HO366 := n5_; have HB := n6_; have HO372 := n7_; clear n0_ n1_ n2_ n3_ n4_ n5_ n6_ n7_; clear ho hb hg hat; obtain ⟨Ao50, co50, eo50⟩ := Kd.R_slice HO366.out; subst eo50; obtain ⟨Ao51, co51, eo51⟩ := Kd.R_slice HO372.out; subst eo51) | (go_at_call 21; (with_reducible refine (bytes_Equal.calls _ _ t364 _ _ y370 true _ ?side1 ?side2 ?side3 ?side4 A29.out).mono ?_); (case side1 => repeat (first | exact (Kd.R_reads' HO366.out).2.2 | (with_reducible refine Kd.C_alloc ?_ _) | (with_reducible refine Kd.C_drewN ?_ _) | (with_reducible refine Kd.C_drew ?_))); (case side2 => exact (Kd.R_reads' HO366.out).2.1); (case side3 => repeat (first | exact (Kd.R_reads' HO372.out).2.2 | (with_reducible refine Kd.C_alloc ?_ _) | (with_reducible refine Kd.C_drewN ?_ _) | (with_reducible refine Kd.C_drew ?_))); (case side4 => exact (Kd.R_reads' HO372.out).2.1); rintro e w' ⟨rfl, ⟨nd, rfl⟩⟩; have hcv52 := own_string (P := Try.prog) Try.underlying23 Try.underlying5 Try.underlying9 (Kd.own_of_R HO_10.out); have hcv52d := fun nd_ : Nat => own_string (P := Try.prog) Try.underlying23 Try.underlying5 Try.underlying9 (Kd.own_of_R (Kd.R_drewN HO_10.out nd_))))
                            go_ret
                            exact ⟨by first | exact congrArg (fun b_ => Ending.returned (.bool b_)) HRT.out | rfl | (simp [errW_none, errW_some] <;> rfl) | (simp [*, errW_none, errW_some] <;> rfl), by repeat (first | (with_reducible first | exact HB.out | apply below_alloc | apply pw_below_drewN | apply below_drew1) | exact HB.out)⟩
                          · rw [if_neg c35] at H
                            have c35b0 : (t337 == t340) = false := beq_eq_false_iff_ne.mpr c35
                            have c35b1 : (t337 != t340) = true := bne_iff_ne.mpr c35
                            exact absurd H (by simp)
                        · rw [if_neg c34] at H
                          have c34b0 : (t336 == t339) = false := by simpa using c34
                          (try (have c34b1 : decide (t336 = t339) = false := by simpa using c34))
                          (try (have c34b2 : (t336 == t339) = false := by simpa using c34))
                          (try (have c34b3 : ¬ (t336 = t339) := by simpa using c34))
                          clear c34
                          exact absurd H (by simp)
                      · rw [if_neg c33] at H
                        have c33b0 : (t330 == t333) = false := beq_eq_false_iff_ne.mpr c33
                        have c33b1 : (t330 != t333) = true := bne_iff_ne.mpr c33
                        exact absurd H (by simp)
                    · rw [if_neg c32] at H
                      have c32b0 : (t329 == t332) = false := beq_eq_false_iff_ne.mpr c32
                      have c32b1 : (t329 != t332) = true := bne_iff_ne.mpr c32
                      exact absurd H (by simp)
                  · rw [if_neg c31] at H
                    have c31b0 : (t328.toList == (strOfNums t331).toList) = false := beq_eq_false_iff_ne.mpr c31
                    have c31b1 : (t328.toList != (strOfNums t331).toList) = true := bne_iff_ne.mpr c31
                    exact absurd H (by simp)
                · replace c30 := Bool.eq_false_iff.mpr c30
                  subst c30
                  have H1 : (some false) = some true := by rw [if_neg (show ¬ (false = true) by decide)] at H; first | done | exact H
                  clear H
                  have H := H1
                  clear H1
                  exact absurd H (by simp)
              · rw [if_neg c28] at H
                exact absurd H (by simp)
            · replace c25 := Bool.eq_false_iff.mpr c25
              subst c25
              have H1 : (some false) = some true := by rw [if_neg (show ¬ (false = true) by decide)] at H; first | done | exact H
              clear H
              have H := H1
              clear H1
              exact absurd H (by simp)
          · rw [if_neg c23] at H
            exact absurd H (by simp)
        · rw [if_neg c21] at H
          exact absurd H (by simp)
      · replace c18 := Bool.eq_false_iff.mpr c18
        subst c18
        have H1 : (some false) = some true := by rw [if_neg (show ¬ (false = true) by decide)] at H; first | done | exact H
        clear H
        have H := H1
        clear H1
        exact absurd H (by simp)

/-- THE ONE PURE STATEMENT of cressetlaw01_CodecTexts: yours. -/
def cressetlaw01_CodecTexts.Pure : Prop := ∀ (a0 : ByteArray) (a1 : Bool) (l2 : List Int), a0.size ≤ 140737488351232 → (l2.length ≤ maxLen ∧ l2.length * 1 ≤ 140737488351232 ∧ ∀ x_ ∈ l2, (Lit.int .u8 x_).wf = true) → ((a0.size + 1)) + ((1) + (((l2.map (fun _ => 1)).sum + 1))) ≤ 1048576 → ∃ k, cressetlaw01_CodecTexts.f k a0 a1 l2 = some true
theorem cressetlaw01_CodecTexts.walk (P : cressetlaw01_CodecTexts.Pure) (a0 : ByteArray) (a1 : Bool) (A2 : Option Addr) (c2 : Nat) (l2 : List Int) (w : World) (hr2 : Kd.C (Kd.int .u8) w A2 l2.length l2) (hc2 : l2.length ≤ c2) (w0 : a0.size ≤ 140737488351232) (w2 : (l2.length ≤ maxLen ∧ l2.length * 1 ≤ 140737488351232 ∧ ∀ x_ ∈ l2, (Lit.int .u8 x_).wf = true)) (hU : ((a0.size + 1)) + ((1) + (((l2.map (fun _ => 1)).sum + 1))) ≤ 1048576) :
    Calls Try.prog 11 #[.string a0, .bool a1, .slice A2 l2.length c2] w fun e w' => e = .returned (.bool true) ∧ Below w.heap.size w w' := by
  obtain ⟨k, h⟩ := P a0 a1 l2 w0 w2 hU
  refine (cressetlaw01_CodecTexts.calls k a0 a1 A2 c2 l2 w hr2 hc2 h).mono ?_
  rintro e w' ⟨rfl, hd⟩
  exact ⟨rfl, hd⟩

end Go.Proofs.Ytphdinelioendaa.B

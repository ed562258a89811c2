/-
Of the row ValidDoes: printed walks and plain laws, merged (wip/claim2.py).
-/
import Derived.Test.YtgbmlkoblcfceaaQValidDoes2
import Derived.Test.YtgbmlkoblcfceaaQValidDoes3
import Derived.WalkLawsBesides
import Derived.Deep.RegionLaw
import Derived.Outline
import Derived.Handy
set_option linter.unusedVariables false
set_option linter.unusedSimpArgs false
namespace Go.Proofs.Ytgbmlkoblcfceaa.Vd
open Go.RowKit Go.Proofs.Ytgbmlkoblcfceaa.B Go.Proofs.YtgbmlkoblcfceaaW.PrintWords Go.Proofs.YtgbmlkoblcfceaaW.PrintLast Go.Proofs.YtgbmlkoblcfceaaW.PrintMore Go.Proofs.YtgbmlkoblcfceaaW.Mine Go.Proofs.YtgbmlkoblcfceaaW.Hp
set_option maxRecDepth 100000 in
theorem len1 (w : World) : Calls Try.prog 41 #[.int .u64 1] w fun e w' => e = .returned (.int .i64 1) ∧ w = w' := by
  go_enter Try.func41, Try.ntmps41
  go_wp2_with (go_in)
  go_ret
  exact ⟨by kernel_rfl, rfl⟩
theorem ins1 (w : World) (A : Option Addr) (c : Nat) : Calls Try.prog 47 #[.slice A 1 c, .int .i64 0, .int .i64 1] w fun e w' => (∃ v, e = .returned v) ∧ w = w' := by
  go_enter Try.func47, Try.ntmps47
  go_wp2
  go_loopw [6] (fun p wr => p = .int .i64 1 ∧ wr = w) (fun _ _ => 0)
  case atStart => exact ⟨rfl, rfl⟩
  case round =>
    obtain ⟨rfl, rfl⟩ := hrel
    go_wp2
    exact bodyPost_end (results_none rfl _ _ _) rfl ⟨⟨_, rfl⟩, rfl⟩
set_option maxHeartbeats 4000000 in
theorem pdq1 (w : World) (A : Option Addr) (c : Nat) : Calls Try.prog 40 #[.slice A 1 c, .int .i64 0, .int .i64 1, .int .i64 1] w fun e w' => (∃ v, e = .returned v) ∧ w = w' := by
  go_enter Try.func40, Try.ntmps40
  go_wp2
  go_loopw [3, 1, 9, 8, 2] (fun l a x y b wr => (l = .int .i64 1 ∧ a = .int .i64 0 ∧ x = .bool true ∧ y = .bool true ∧ b = .int .i64 1) ∧ wr = w) (fun _ _ _ _ _ _ => 0)
  case atStart => exact ⟨⟨rfl, rfl, rfl, rfl, rfl⟩, rfl⟩
  case round =>
    obtain ⟨⟨rfl, rfl, rfl, rfl, rfl⟩, rfl⟩ := hrel
    go_wp2_with (go_at_call 47; refine (ins1 _ A c).mono ?_; rintro e w' ⟨⟨v, rfl⟩, rfl⟩)
    exact bodyPost_ret (results_none rfl _ _ _) rfl ⟨⟨_, rfl⟩, rfl⟩
theorem sort1 (w : World) (A : Option Addr) (c : Nat) : Calls Try.prog 32 #[.slice A 1 c] w fun e w' => (∃ v, e = .returned v) ∧ w = w' := by
  go_enter Try.func32, Try.ntmps32
  go_wp2_with (first | (go_at_call 41; refine (len1 _).mono ?_; rintro e w' ⟨rfl, rfl⟩) | (go_at_call 40; refine (pdq1 _ A c).mono ?_; rintro e w' ⟨⟨v, rfl⟩, rfl⟩))
  exact bodyPost_end (results_none rfl _ _ _) rfl ⟨⟨_, rfl⟩, rfl⟩
theorem compact1 (w : World) (A : Option Addr) (c : Nat) : Calls Try.prog 33 #[.slice A 1 c] w fun e w' => e = .returned (.slice A 1 c) ∧ w = w' := by
  go_enter Try.func33, Try.ntmps33
  go_wp2
  go_ret
  exact ⟨rfl, rfl⟩
theorem none_calls (b : Nat) (w : World) (m : Bool) (h : w.cell? ⟨b, 0, none⟩ = some (.bool m)) : Calls Try.prog 30 #[.pointer (some ⟨b, 0, none⟩)] w fun e w' => e = .returned (.bool !m) ∧ w = w' := by
  go_enter Try.func30, Try.ntmps30
  go_wp2
  go_ret
  exact ⟨rfl, rfl⟩
theorem new_calls (w : World) : Calls Try.prog 13 #[] w fun e w' => e = .returned (.pointer (some ⟨w.heap.size, 0, none⟩)) ∧ w' = w.alloc (.cells #[.bool true, .slice none 0 0, .int .i64 0, .int .i64 0] 61) := by
  go_enter Try.func13, Try.ntmps13
  go_wp2
  go_ret
  exact ⟨rfl, rfl⟩
theorem info67 : (Try.prog.info? 67).map (fun i => (i.zero, i.size, i.bytes)) = some (some (.agg #[.int .i64 0, .slice none 0 0]), 2, 32) := by kernel_rfl
def vb (b : Nat) (v : Value) (f l : Int) (w : World) : Prop := w.heap[b]? = some (.cells #[.bool true, v, .int .i64 f, .int .i64 l] 61 (0, 0))
theorem vb.c0 {b : Nat} {v : Value} {f l : Int} {w : World} (h : vb b v f l w) : w.cell? ⟨b, 0, none⟩ = some (.bool true) := by unfold vb at h; simp only [World.cell?, h]; rfl
theorem vb.c1 {b : Nat} {v : Value} {f l : Int} {w : World} (h : vb b v f l w) : w.cell? ⟨b, 1, none⟩ = some v := by unfold vb at h; simp only [World.cell?, h]; rfl
theorem vb.c2 {b : Nat} {v : Value} {f l : Int} {w : World} (h : vb b v f l w) : w.cell? ⟨b, 2, none⟩ = some (.int .i64 f) := by unfold vb at h; simp only [World.cell?, h]; rfl
theorem vb.c3 {b : Nat} {v : Value} {f l : Int} {w : World} (h : vb b v f l w) : w.cell? ⟨b, 3, none⟩ = some (.int .i64 l) := by unfold vb at h; simp only [World.cell?, h]; rfl
theorem vb.fr {b : Nat} {v : Value} {f l : Int} {w : World} (h : vb b v f l w) (i : Nat) : w.frozen? ⟨b, i, none⟩ = false := by unfold vb at h; simp [World.frozen?, h]
theorem vb.lt {b : Nat} {v : Value} {f l : Int} {w : World} (h : vb b v f l w) : b < w.heap.size := (Array.getElem?_eq_some_iff.1 h).1
theorem vb.below {b n : Nat} {v : Value} {f l : Int} {w W : World} (h : vb b v f l w) (hn : b < n) (hb : Below n w W) : vb b v f l W := (hb.block b hn).trans h
theorem add_fin {b : Nat} {w w5 : World} {A5 : Option Addr} {c5 : Nat} (hlt : b < w.heap.size) (hv5 : vb b (.slice none 0 0) 0 0 w5) (hR5 : Kd.R k67 67 w5 w.heap.size (fun _ => True) (.slice A5 1 c5) [⟨5, [⟨#[97]⟩]⟩]) (hB : Below b w w5) :
    Below b w ((w5.setCell ⟨b, 1, none⟩ (.slice A5 1 c5)).setCell ⟨b, 3, none⟩ (.int .i64 5)) ∧ ∃ A c, vb b (.slice A 1 c) 0 5 ((w5.setCell ⟨b, 1, none⟩ (.slice A5 1 c5)).setCell ⟨b, 3, none⟩ (.int .i64 5)) ∧ Kd.C k67 ((w5.setCell ⟨b, 1, none⟩ (.slice A5 1 c5)).setCell ⟨b, 3, none⟩ (.int .i64 5)) A 1 [⟨5, [⟨#[97]⟩]⟩] ∧ 1 ≤ c := by
  refine ⟨(hB.setCell (p := ⟨b, 1, none⟩) (Nat.le_refl _) _).setCell (p := ⟨b, 3, none⟩) (Nat.le_refl _) _, A5, c5, ?_, ?_, (Kd.R_reads' hR5).2.1⟩
  · exact blk_set (blk_set hv5 1 _) 3 _
  · refine (Kd.R_reads' (Kd.R_move (Kd.R_bound hR5) (fun k hk => ?_))).2.2
    have hk2 := hk.2.1
    rw [Below.heap_setCell _ _ _ k (by show k ≠ b; omega), Below.heap_setCell _ _ _ k (by show k ≠ b; omega)]
set_option maxHeartbeats 8000000 in
set_option maxRecDepth 100000 in
theorem add_live (b : Nat) (w : World) (Aw : Option Addr) (cw : Nat) (hb : vb b (.slice none 0 0) 0 0 w) (hC : Kd.C Kd.string w Aw 1 [⟨#[97]⟩]) (hcw : 1 ≤ cw) :
    Calls Try.prog 14 #[.pointer (some ⟨b, 0, none⟩), .int .i64 5, .slice Aw 1 cw] w fun e w' => e = .returned (.int .i64 0) ∧ Below b w w' ∧ ∃ A c, vb b (.slice A 1 c) 0 5 w' ∧ Kd.C k67 w' A 1 [⟨5, [⟨#[97]⟩]⟩] ∧ 1 ≤ c := by
  have z0 := hb.c0
  have z1 := hb.c1
  have z2 := hb.c2
  have z3 := hb.c3
  have hlt := hb.lt
  go_enter Try.func14, Try.ntmps14
  go_wp2_with (first | (go_at_call 30; refine (none_calls b w true z0).mono ?_; rintro e w' ⟨rfl, rfl⟩) | (go_at_call 31; refine (slices_Clone_string_string.calls Aw cw [⟨#[97]⟩] [⟨#[97]⟩] _ hC hcw (if_pos (by decide))).mono ?_; rintro e w1 ⟨v0, rfl, HR, hb1⟩; obtain ⟨A1, c1, rfl⟩ := Kd.R_slice HR) | (go_at_call 32; refine (sort1 _ _ _).mono ?_; rintro e w' ⟨⟨v, rfl⟩, rfl⟩))
  have hv1 := hb.below hlt hb1
  have y1 : w1.drew.cell? ⟨b, 1, none⟩ = some (.slice none 0 0) := hv1.c1
  have hv2 : vb b (.slice none 0 0) 0 0 ((w1.alloc (.cells #[.int .i64 5, .slice A1 1 c1] 67)).drew) := by
    have : Below w1.heap.size w1 ((w1.alloc (.cells #[.int .i64 5, .slice A1 1 c1] 67)).drew) := below_drew ((Below.refl _ _).alloc (Nat.le_refl _) _)
    exact hv1.below hv1.lt this
  have y2 := hv2.c1
  have hsz := hb1.size
  have HRd := Kd.R_drew HR
  clear z0 z1 z2 z3
  go_region_law (first
    | (refine goes_ Try.func33 (by kernel_rfl) rfl #[.slice A1 1 c1] (by rfl) rfl rfl (by simp only [List.map_toArray, List.map_cons, List.map_nil]; rfl) ?_; refine (compact1 _ _ _).mono ?_; rintro e w' ⟨rfl, rfl⟩; refine ⟨_, rfl, ?_⟩)
    | (go_loud (refine Kd.R_append_step k67 (w0 := w1.drew) w.heap.size rfl (.tmp 45) (.tmp 50) 59 67 (.agg #[.int .i64 0, .slice none 0 0]) 32 rfl Try.underlying59 info67 rfl (by decide) (by omega) (.slice none 0 0) [] (⟨5, [⟨#[97]⟩]⟩ : S67) [.int .i64 5, .slice A1 1 c1] (fun _ => True) (fun _ => True) rfl rfl (k67_mkM _ _ _ (⟨5, [⟨#[97]⟩]⟩ : S67) HRd) (fun k _ => ⟨trivial, by simp [Value.ownBlock]⟩) (fun _ _ => trivial) (Kd.R_nil _ _ _ _ _) (Below.refl _ _) hsz (by decide) ?_); intro v5 w5 hR5 hb5 hg5 hat5; obtain ⟨A5, c5, rfl⟩ := Kd.R_slice hR5; have hv5 : vb b (.slice none 0 0) 0 0 w5 := hv1.below hlt ((below_drew (Below.refl _ _)).trans hb5); have y5 := hv5.c1; have u5 := hv5.fr 1; have u7 := hv5.fr 3; have y7 := hv5.c3))
  all_goals
    clear hv2 y1 y2 y5 u5 HRd HR
    go_wp2
    go_ret
    exact ⟨rfl, add_fin hlt hv5 hR5 ((hb1.trans ((below_drew (Below.refl _ _)).trans hb5)).mono (Nat.le_of_lt hlt))⟩
end Go.Proofs.Ytgbmlkoblcfceaa.Vd

/-
Of the row ImageNone: printed walks and plain laws, merged (wip/claim2.py).
-/
import Derived.Test.YtkflgkmblebdmaaQImageNone3
import Derived.Test.YtkflgkmblebdmaaQImageNone5
namespace Go.Proofs.Ytkflgkmblebdmaa.B
open Go.RowKit Go.Proofs.YtkflgkmblebdmaaW.PrintWords Go.Proofs.YtkflgkmblebdmaaW.PrintLast Go.Proofs.YtkflgkmblebdmaaW.PrintMore Go.Proofs.YtkflgkmblebdmaaW.Mine
attribute [local go_sem] max2_int min2_int max_two min_two max_three min_three max_four min_four str_gtr str_leq str_geq str_max str_min   -- for this text's walks alone
set_option linter.unusedVariables false
set_option linter.unusedSimpArgs false

set_option maxHeartbeats 4000000 in
set_option maxRecDepth 100000 in
theorem api_Version.any_58 {lb : Array Value} {p : S87 → Bool} (A0 : Option Addr) (c0 : Nat) (l0 : List (S87)) (w : World)
    (hp : ∀ (W : World) (x : S87), x ∈ l0 → Below w.heap.size w W → Calls Try.prog 58 (#[.agg #[.int .i64 x.f0, .string x.f1, .bool x.f2]] ++ lb) W fun e w' => e = .returned (.bool (p x)) ∧ Below W.heap.size W w')
    (hr0 : Kd.C k87 w A0 l0.length l0) (hc0 : l0.length ≤ c0) (hlen : l0.length ≤ 9223372036854775807) :
    Calls Try.prog 57 #[.slice A0 l0.length c0, .func (.func 58) #[] lb] w fun e w' => e = .returned (.int .i64 (Sl.idxI p l0)) ∧ Below w.heap.size w w' := by
  have HR0 := Aside0.mk hr0
  have HP := Aside0.mk hp
  clear hr0 hp
  go_enter Try.func57, Try.ntmps57
  go_wp2
  go_loopg [5, 8] l0.length (fun gk _ v8 w' => ∃ kk : Nat, kk ≤ l0.length ∧ l0.length - kk ≤ gk ∧ v8 = .int .i64 kk ∧ Aside0 (Below w.heap.size w w') ∧ Aside0 (∀ j, j < kk → p (l0.getD j z87) = false))
  case atStart => exact ⟨0, Nat.zero_le _, by omega, rfl, ⟨Below.refl _ w⟩, ⟨fun j hj => absurd hj (Nat.not_lt_zero _)⟩⟩
  case round =>
    obtain ⟨kk, hkk, hg, rfl, HB, HN⟩ := hrel
    by_cases hlt : kk < l0.length
    · have hltz : (kk : Int) < (l0.length : Int) := by omega
      obtain ⟨ad, e0, hx_0, hx_1, hx_2⟩ := at_T87 HR0.out (kk : Int) (by omega) hltz
      cases e0
      replace hx_0 := (HB.out.cell (World.block_lt_of_cell? w _ hx_0)).trans hx_0
      replace hx_1 := (HB.out.cell (World.block_lt_of_cell? w _ hx_1)).trans hx_1
      replace hx_2 := (HB.out.cell (World.block_lt_of_cell? w _ hx_2)).trans hx_2
      have hcall := HP.out _ (rd_T87 l0 (kk : Int)) (Sl.getD_in _ hlt) HB.out
      have hrd : rd_T87 l0 (kk : Int) = l0.getD kk z87 := rfl
      simp only [Int.toNat_natCast] at hx_0 hx_1 hx_2
      have HRD : Aside0 (l0.getD kk z87 = rd_T87 l0 (kk : Int)) := ⟨rfl⟩
      clear hrd
      generalize rd_T87 l0 (kk : Int) = y at hx_0 hx_1 hx_2 hcall HRD
      cases hq : p y with
      | true =>
        rw [hq] at hcall
        go_wp2_with (go_at_call 58; refine hcall.mono ?_; rintro e w' ⟨rfl, hb⟩)
        go_ret
        refine ⟨?_, below_then HB.out HB.out.size hb⟩
        rw [Sl.idxI_hit z87 hlt (by rw [HRD.out]; exact hq) HN.out]
        rfl
      | false =>
        rw [hq] at hcall
        go_wp2_with (go_at_call 58; refine hcall.mono ?_; rintro e w' ⟨rfl, hb⟩)
        go_roundg (l0.length - (kk + 1))
        case measure => omega
        case rel =>
          refine ⟨kk + 1, by omega, by omega, by go_num, ⟨below_then HB.out HB.out.size hb⟩, ⟨fun j hj => ?_⟩⟩
          by_cases e : j = kk
          · subst e
            rw [HRD.out]; exact hq
          · exact HN.out j (by omega)
    · have hltz : ¬ (kk : Int) < (l0.length : Int) := by omega
      have : kk = l0.length := by omega
      subst this
      go_wp2
      go_ret
      refine ⟨?_, HB.out⟩
      rw [Sl.idxI_none z87 HN.out]
      rfl

end Go.Proofs.Ytkflgkmblebdmaa.B

namespace Go.Proofs.Ytkflgkmblebdmaa.B
open Go.RowKit Go.Proofs.YtkflgkmblebdmaaW.PrintWords Go.Proofs.YtkflgkmblebdmaaW.PrintLast Go.Proofs.YtkflgkmblebdmaaW.PrintMore Go.Proofs.YtkflgkmblebdmaaW.Mine
attribute [local go_sem] max2_int min2_int max_two min_two max_three min_three max_four min_four str_gtr str_leq str_geq str_max str_min   -- for this text's walks alone
set_option linter.unusedVariables false
set_option linter.unusedSimpArgs false

def version_At.f (l0 : List S87) (a1 : Int) : Option (Int × ByteArray × Bool × Bool) := if l0.length ≤ 9223372036854775807 then (if Sl.idxI (fun x => decide (x.f0 ≤ a1)) l0 < 0 then some (0, (⟨#[]⟩ : ByteArray), false, false) else some ((rd_T87 l0 (Sl.idxI (fun x => decide (x.f0 ≤ a1)) l0)).f0, (rd_T87 l0 (Sl.idxI (fun x => decide (x.f0 ≤ a1)) l0)).f1, (rd_T87 l0 (Sl.idxI (fun x => decide (x.f0 ≤ a1)) l0)).f2, true)) else none
set_option maxHeartbeats 2000000 in
set_option maxRecDepth 100000 in
theorem version_At.closure (b : Nat) (x : S87) (key : Int) (W : World) (hc : W.cell? ⟨b, 0, none⟩ = some (.int .i64 key)) :
    Calls Try.prog 58 #[.agg #[.int .i64 x.f0, .string x.f1, .bool x.f2], .pointer (some ⟨b, 0, none⟩)] W fun e w' => e = .returned (.bool (decide (x.f0 ≤ key))) ∧ Below W.heap.size W w' := by
  have hbW : b < W.heap.size := World.block_lt_of_cell? W ⟨b, 0, none⟩ hc
  have hne : b ≠ W.heap.size := by omega
  go_enter Try.func58, Try.ntmps58
  go_wp2
  go_ret
  exact ⟨rfl, (Below.refl _ W).alloc (Nat.le_refl _) _⟩
set_option maxHeartbeats 2000000 in
set_option maxRecDepth 100000 in
theorem version_At.calls (A0 : Option Addr) (c0 : Nat) (l0 : List S87) (a1 : Int) (r1 : Int) (r2 : ByteArray) (r3 r4 : Bool) (w : World) (hr0 : Kd.C k87 w A0 l0.length l0) (hc0 : l0.length ≤ c0) (h : version_At.f l0 a1 = some (r1, r2, r3, r4)) :
    Calls Try.prog 37 #[.slice A0 l0.length c0, .int .i64 a1] w fun e w' => e = .returned (.tuple #[.agg #[.int .i64 r1, .string r2, .bool r3], .bool r4]) ∧ Below w.heap.size w w' := by
  unfold version_At.f at h
  split at h
  · rename_i hl
    have hcon := api_Version.any_58 (lb := #[.pointer (some ⟨w.heap.size, 0, none⟩)]) (p := fun x => decide (x.f0 ≤ a1)) A0 c0 l0 ((w.alloc (.cells #[.int .i64 a1] 2)).alloc (.cells #[.int .i64 0, .string (⟨#[]⟩ : ByteArray), .bool false] 87)) (fun W x hx hb => by
      have hcell : W.cell? ⟨w.heap.size, 0, none⟩ = some (.int .i64 a1) := (hb.cell (p := ⟨w.heap.size, 0, none⟩) (by simp; omega)).trans (by simp)
      exact version_At.closure w.heap.size x a1 W hcell) (Kd.C_alloc (Kd.C_alloc hr0 _) _) hc0 hl
    have HI : Sl.idxI (fun x : S87 => decide (x.f0 ≤ a1)) l0 < 0 ∨ ∃ i : Nat, i < l0.length ∧ Sl.idxI (fun x : S87 => decide (x.f0 ≤ a1)) l0 = i := (Sl.idxI_cases _ l0 z87).imp (fun h => by omega) (fun ⟨i, h1, h2, _⟩ => ⟨i, h1, h2⟩)
    generalize Sl.idxI (fun x : S87 => decide (x.f0 ≤ a1)) l0 = i at hcon h HI
    have HR0 := Aside0.mk hr0
    clear hr0
    have hblk : ((w.alloc (.cells #[.int .i64 a1] 2)).alloc (.cells #[.int .i64 0, .string (⟨#[]⟩ : ByteArray), .bool false] 87)).heap[w.heap.size + 1]? = some (.cells #[.int .i64 0, .string (⟨#[]⟩ : ByteArray), .bool false] 87) := by simpa using heap_alloc_new (w.alloc (.cells #[.int .i64 a1] 2)) (.cells #[.int .i64 0, .string (⟨#[]⟩ : ByteArray), .bool false] 87)
    by_cases ci : i < 0
    · rw [if_pos ci] at h
      simp only [Option.some.injEq, Prod.mk.injEq] at h
      obtain ⟨rfl, rfl, rfl, rfl⟩ := h
      have cib : decide (i < 0) = true := decide_eq_true ci
      clear ci HI
      go_enter Try.func37, Try.ntmps37
      go_wp2_with (go_at_call 57; refine hcon.mono ?_; rintro e w' ⟨rfl, hb⟩; have BK := Aside0.mk ((hb.block (w.heap.size + 1) (by simp)).trans hblk); have HB := Aside0.mk (below_then (((Below.refl _ w).alloc (Nat.le_refl _) _).alloc (by simp) _) (by simp; omega) hb); have hz0 : w'.cell? ⟨w.heap.size + 1, 0, none⟩ = some (.int .i64 0) := (blk_cell BK.out 0).trans rfl; have hz1 : w'.cell? ⟨w.heap.size + 1, 1, none⟩ = some (.string (⟨#[]⟩ : ByteArray)) := (blk_cell BK.out 1).trans rfl; have hz2 : w'.cell? ⟨w.heap.size + 1, 2, none⟩ = some (.bool false) := (blk_cell BK.out 2).trans rfl; have hf0 := blk_frozen BK.out 0; have hf1 := blk_frozen BK.out 1; have hf2 := blk_frozen BK.out 2; clear hb hblk hcon)
      refine bodyPost_ret (results_ct rfl _ _ (w.heap.size + 1) 87 #[.int .i64 0, .string (⟨#[]⟩ : ByteArray), .bool false] (0, 0) _ rfl (by refine blk_put (cs := #[.int .i64 0, .string (⟨#[]⟩ : ByteArray), .bool false]) ?_ 2 _ rfl; refine blk_put (cs := #[.int .i64 0, .string (⟨#[]⟩ : ByteArray), .bool false]) ?_ 1 _ rfl; refine blk_put (cs := #[.int .i64 0, .string (⟨#[]⟩ : ByteArray), .bool false]) ?_ 0 _ rfl; exact BK.out) Try.underlying87 rfl (by kernel_rfl)) rfl ?_
      exact ⟨rfl, below_set (below_set (below_set HB.out (Nat.le_succ _)) (Nat.le_succ _)) (Nat.le_succ _)⟩
    · rw [if_neg ci] at h
      simp only [Option.some.injEq, Prod.mk.injEq] at h
      obtain ⟨rfl, rfl, rfl, rfl⟩ := h
      obtain ⟨q, hq, rfl⟩ := HI.resolve_left ci
      have cib : decide ((q : Int) < 0) = false := decide_eq_false ci
      have hqz : (q : Int) < (l0.length : Int) := by omega
      have hq0 : (0 : Int) ≤ q := by omega
      obtain ⟨ad, e0, hx0, hx1, hx2⟩ := at_T87 HR0.out (q : Int) hq0 hqz
      cases e0
      rw [Int.toNat_natCast] at hx0 hx1 hx2
      have hu87 := Try.underlying87
      clear ci HI
      replace hq0 := eq_true hq0
      replace hqz := eq_true hqz
      go_enter Try.func37, Try.ntmps37
      go_wp2_with (go_at_call 57; refine hcon.mono ?_; rintro e w' ⟨rfl, hb⟩; have BK := Aside0.mk ((hb.block (w.heap.size + 1) (by simp)).trans hblk); have HB := Aside0.mk (below_then (((Below.refl _ w).alloc (Nat.le_refl _) _).alloc (by simp) _) (by simp; omega) hb); have hz0 : w'.cell? ⟨w.heap.size + 1, 0, none⟩ = some (.int .i64 0) := (blk_cell BK.out 0).trans rfl; have hz1 : w'.cell? ⟨w.heap.size + 1, 1, none⟩ = some (.string (⟨#[]⟩ : ByteArray)) := (blk_cell BK.out 1).trans rfl; have hz2 : w'.cell? ⟨w.heap.size + 1, 2, none⟩ = some (.bool false) := (blk_cell BK.out 2).trans rfl; have hf0 := blk_frozen BK.out 0; have hf1 := blk_frozen BK.out 1; have hf2 := blk_frozen BK.out 2; replace hx0 := (HB.out.cell (World.block_lt_of_cell? w _ hx0)).trans hx0; replace hx1 := (HB.out.cell (World.block_lt_of_cell? w _ hx1)).trans hx1; replace hx2 := (HB.out.cell (World.block_lt_of_cell? w _ hx2)).trans hx2; clear hb hblk hcon)
      refine bodyPost_ret (results_ct rfl _ _ (w.heap.size + 1) 87 #[.int .i64 (rd_T87 l0 (q : Int)).f0, .string (rd_T87 l0 (q : Int)).f1, .bool (rd_T87 l0 (q : Int)).f2] (0, 0) _ rfl (by refine blk_put (cs := #[.int .i64 (rd_T87 l0 (q : Int)).f0, .string (rd_T87 l0 (q : Int)).f1, .bool false]) ?_ 2 _ rfl; refine blk_put (cs := #[.int .i64 (rd_T87 l0 (q : Int)).f0, .string (⟨#[]⟩ : ByteArray), .bool false]) ?_ 1 _ rfl; refine blk_put (cs := #[.int .i64 0, .string (⟨#[]⟩ : ByteArray), .bool false]) ?_ 0 _ rfl; exact BK.out) Try.underlying87 rfl (by kernel_rfl)) rfl ?_
      exact ⟨rfl, below_set (below_set (below_set HB.out (Nat.le_succ _)) (Nat.le_succ _)) (Nat.le_succ _)⟩
  · cases h

end Go.Proofs.Ytkflgkmblebdmaa.B

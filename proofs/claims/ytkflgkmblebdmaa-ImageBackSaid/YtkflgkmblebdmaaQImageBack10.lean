/-
Of the row ImageBack: printed walks and plain laws, merged (wip/claim2.py).
-/
import Derived.Test.YtkflgkmblebdmaaQImageBack3
import Derived.Test.YtkflgkmblebdmaaQImageBack4
import Derived.Test.YtkflgkmblebdmaaQImageBack9
namespace Go.Proofs.Ytkflgkmblebdmaa.B
open Go.RowKit Go.Proofs.YtkflgkmblebdmaaW.PrintWords Go.Proofs.YtkflgkmblebdmaaW.PrintLast Go.Proofs.YtkflgkmblebdmaaW.PrintMore Go.Proofs.YtkflgkmblebdmaaW.Mine
attribute [local go_sem] max2_int min2_int max_two min_two max_three min_three max_four min_four str_gtr str_leq str_geq str_max str_min   -- for this text's walks alone
set_option linter.unusedVariables false
set_option linter.unusedSimpArgs false

set_option maxHeartbeats 4000000 in
set_option maxRecDepth 100000 in
theorem api_Version.any_58 {lb : Array Value} {p : S87 → Bool} (A0 : Option Addr) (c0 : Nat) (l0 : List (S87)) (w : World)
    (hp : ∀ (W : World) (x : S87), x ∈ l0 → Below w.heap.size w W → Calls Try.prog 58 (#[.agg #[.int .i64 x.f0, .string x.f1, .bool x.f2]] ++ lb) W fun e w' => e = .returned (.bool (p x)) ∧ Below W.heap.size W w')
    (hr0 : Kd.C k87 w A0 l0.length l0) (hc0 : l0.length ≤ c0) (hlen : l0.length ≤ 9223372036854775807) :
    Calls Try.prog 57 #[.slice A0 l0.length c0, .func (.func 58) #[] lb] w fun e w' => e = .returned (.int .i64 (Sl.idxI p l0)) ∧ Below w.heap.size w w' := by
  have HR0 := Aside0.mk hr0
  have HP := Aside0.mk hp
  clear hr0 hp
  go_enter Try.func57, Try.ntmps57
  go_wp2
  go_loopg [5, 8] l0.length (fun gk _ v8 w' => ∃ kk : Nat, kk ≤ l0.length ∧ l0.length - kk ≤ gk ∧ v8 = .int .i64 kk ∧ Aside0 (Below w.heap.size w w') ∧ Aside0 (∀ j, j < kk → p (l0.getD j z87) = false))
  case atStart => exact ⟨0, Nat.zero_le _, by omega, rfl, ⟨Below.refl _ w⟩, ⟨fun j hj => absurd hj (Nat.not_lt_zero _)⟩⟩
  case round =>
    obtain ⟨kk, hkk, hg, rfl, HB, HN⟩ := hrel
    by_cases hlt : kk < l0.length
    · have hltz : (kk : Int) < (l0.length : Int) := by omega
      obtain ⟨ad, e0, hx_0, hx_1, hx_2⟩ := at_T87 HR0.out (kk : Int) (by omega) hltz
      cases e0
      replace hx_0 := (HB.out.cell (World.block_lt_of_cell? w _ hx_0)).trans hx_0
      replace hx_1 := (HB.out.cell (World.block_lt_of_cell? w _ hx_1)).trans hx_1
      replace hx_2 := (HB.out.cell (World.block_lt_of_cell? w _ hx_2)).trans hx_2
      have hcall := HP.out _ (rd_T87 l0 (kk : Int)) (Sl.getD_in _ hlt) HB.out
      have hrd : rd_T87 l0 (kk : Int) = l0.getD kk z87 := rfl
      simp only [Int.toNat_natCast] at hx_0 hx_1 hx_2
      have HRD : Aside0 (l0.getD kk z87 = rd_T87 l0 (kk : Int)) := ⟨rfl⟩
      clear hrd
      generalize rd_T87 l0 (kk : Int) = y at hx_0 hx_1 hx_2 hcall HRD
      cases hq : p y with
      | true =>
        rw [hq] at hcall
        go_wp2_with (go_at_call 58; refine hcall.mono ?_; rintro e w' ⟨rfl, hb⟩)
        go_ret
        refine ⟨?_, below_then HB.out HB.out.size hb⟩
        rw [Sl.idxI_hit z87 hlt (by rw [HRD.out]; exact hq) HN.out]
        rfl
      | false =>
        rw [hq] at hcall
        go_wp2_with (go_at_call 58; refine hcall.mono ?_; rintro e w' ⟨rfl, hb⟩)
        go_roundg (l0.length - (kk + 1))
        case measure => omega
        case rel =>
          refine ⟨kk + 1, by omega, by omega, by go_num, ⟨below_then HB.out HB.out.size hb⟩, ⟨fun j hj => ?_⟩⟩
          by_cases e : j = kk
          · subst e
            rw [HRD.out]; exact hq
          · exact HN.out j (by omega)
    · have hltz : ¬ (kk : Int) < (l0.length : Int) := by omega
      have : kk = l0.length := by omega
      subst this
      go_wp2
      go_ret
      refine ⟨?_, HB.out⟩
      rw [Sl.idxI_none z87 HN.out]
      rfl

end Go.Proofs.Ytkflgkmblebdmaa.B

namespace Go.Proofs.Ytkflgkmblebdmaa.B
open Go.RowKit Go.Proofs.YtkflgkmblebdmaaW.PrintWords Go.Proofs.YtkflgkmblebdmaaW.PrintLast Go.Proofs.YtkflgkmblebdmaaW.PrintMore Go.Proofs.YtkflgkmblebdmaaW.Mine
attribute [local go_sem] max2_int min2_int max_two min_two max_three min_three max_four min_four str_gtr str_leq str_geq str_max str_min   -- for this text's walks alone
set_option linter.unusedVariables false
set_option linter.unusedSimpArgs false

def version_At.f (l0 : List S87) (a1 : Int) : Option (Int × ByteArray × Bool × Bool) := if l0.length ≤ 9223372036854775807 then (if Sl.idxI (fun x => decide (x.f0 ≤ a1)) l0 < 0 then some (0, (⟨#[]⟩ : ByteArray), false, false) else some ((rd_T87 l0 (Sl.idxI (fun x => decide (x.f0 ≤ a1)) l0)).f0, (rd_T87 l0 (Sl.idxI (fun x => decide (x.f0 ≤ a1)) l0)).f1, (rd_T87 l0 (Sl.idxI (fun x => decide (x.f0 ≤ a1)) l0)).f2, true)) else none
set_option maxHeartbeats 2000000 in
set_option maxRecDepth 100000 in
theorem version_At.closure (b : Nat) (x : S87) (key : Int) (W : World) (hc : W.cell? ⟨b, 0, none⟩ = some (.int .i64 key)) :
    Calls Try.prog 58 #[.agg #[.int .i64 x.f0, .string x.f1, .bool x.f2], .pointer (some ⟨b, 0, none⟩)] W fun e w' => e = .returned (.bool (decide (x.f0 ≤ key))) ∧ Below W.heap.size W w' := by
  have hbW : b < W.heap.size := World.block_lt_of_cell? W ⟨b, 0, none⟩ hc
  have hne : b ≠ W.heap.size := by omega
  go_enter Try.func58, Try.ntmps58
  go_wp2
  go_ret
  exact ⟨rfl, (Below.refl _ W).alloc (Nat.le_refl _) _⟩
set_option maxHeartbeats 2000000 in
set_option maxRecDepth 100000 in
theorem version_At.calls (A0 : Option Addr) (c0 : Nat) (l0 : List S87) (a1 : Int) (r1 : Int) (r2 : ByteArray) (r3 r4 : Bool) (w : World) (hr0 : Kd.C k87 w A0 l0.length l0) (hc0 : l0.length ≤ c0) (h : version_At.f l0 a1 = some (r1, r2, r3, r4)) :
    Calls Try.prog 37 #[.slice A0 l0.length c0, .int .i64 a1] w fun e w' => e = .returned (.tuple #[.agg #[.int .i64 r1, .string r2, .bool r3], .bool r4]) ∧ Below w.heap.size w w' := by
  unfold version_At.f at h
  split at h
  · rename_i hl
    have hcon := api_Version.any_58 (lb := #[.pointer (some ⟨w.heap.size, 0, none⟩)]) (p := fun x => decide (x.f0 ≤ a1)) A0 c0 l0 ((w.alloc (.cells #[.int .i64 a1] 2)).alloc (.cells #[.int .i64 0, .string (⟨#[]⟩ : ByteArray), .bool false] 87)) (fun W x hx hb => by
      have hcell : W.cell? ⟨w.heap.size, 0, none⟩ = some (.int .i64 a1) := (hb.cell (p := ⟨w.heap.size, 0, none⟩) (by simp; omega)).trans (by simp)
      exact version_At.closure w.heap.size x a1 W hcell) (Kd.C_alloc (Kd.C_alloc hr0 _) _) hc0 hl
    have HI : Sl.idxI (fun x : S87 => decide (x.f0 ≤ a1)) l0 < 0 ∨ ∃ i : Nat, i < l0.length ∧ Sl.idxI (fun x : S87 => decide (x.f0 ≤ a1)) l0 = i := (Sl.idxI_cases _ l0 z87).imp (fun h => by omega) (fun ⟨i, h1, h2, _⟩ => ⟨i, h1, h2⟩)
    generalize Sl.idxI (fun x : S87 => decide (x.f0 ≤ a1)) l0 = i at hcon h HI
    have HR0 := Aside0.mk hr0
    clear hr0
    have hblk : ((w.alloc (.cells #[.int .i64 a1] 2)).alloc (.cells #[.int .i64 0, .string (⟨#[]⟩ : ByteArray), .bool false] 87)).heap[w.heap.size + 1]? = some (.cells #[.int .i64 0, .string (⟨#[]⟩ : ByteArray), .bool false] 87) := by simpa using heap_alloc_new (w.alloc (.cells #[.int .i64 a1] 2)) (.cells #[.int .i64 0, .string (⟨#[]⟩ : ByteArray), .bool false] 87)
    by_cases ci : i < 0
    · rw [if_pos ci] at h
      simp only [Option.some.injEq, Prod.mk.injEq] at h
      obtain ⟨rfl, rfl, rfl, rfl⟩ := h
      have cib : decide (i < 0) = true := decide_eq_true ci
      clear ci HI
      go_enter Try.func37, Try.ntmps37
      go_wp2_with (go_at_call 57; refine hcon.mono ?_; rintro e w' ⟨rfl, hb⟩; have BK := Aside0.mk ((hb.block (w.heap.size + 1) (by simp)).trans hblk); have HB := Aside0.mk (below_then (((Below.refl _ w).alloc (Nat.le_refl _) _).alloc (by simp) _) (by simp; omega) hb); have hz0 : w'.cell? ⟨w.heap.size + 1, 0, none⟩ = some (.int .i64 0) := (blk_cell BK.out 0).trans rfl; have hz1 : w'.cell? ⟨w.heap.size + 1, 1, none⟩ = some (.string (⟨#[]⟩ : ByteArray)) := (blk_cell BK.out 1).trans rfl; have hz2 : w'.cell? ⟨w.heap.size + 1, 2, none⟩ = some (.bool false) := (blk_cell BK.out 2).trans rfl; have hf0 := blk_frozen BK.out 0; have hf1 := blk_frozen BK.out 1; have hf2 := blk_frozen BK.out 2; clear hb hblk hcon)
      refine bodyPost_ret (results_ct rfl _ _ (w.heap.size + 1) 87 #[.int .i64 0, .string (⟨#[]⟩ : ByteArray), .bool false] (0, 0) _ rfl (by refine blk_put (cs := #[.int .i64 0, .string (⟨#[]⟩ : ByteArray), .bool false]) ?_ 2 _ rfl; refine blk_put (cs := #[.int .i64 0, .string (⟨#[]⟩ : ByteArray), .bool false]) ?_ 1 _ rfl; refine blk_put (cs := #[.int .i64 0, .string (⟨#[]⟩ : ByteArray), .bool false]) ?_ 0 _ rfl; exact BK.out) Try.underlying87 rfl (by kernel_rfl)) rfl ?_
      exact ⟨rfl, below_set (below_set (below_set HB.out (Nat.le_succ _)) (Nat.le_succ _)) (Nat.le_succ _)⟩
    · rw [if_neg ci] at h
      simp only [Option.some.injEq, Prod.mk.injEq] at h
      obtain ⟨rfl, rfl, rfl, rfl⟩ := h
      obtain ⟨q, hq, rfl⟩ := HI.resolve_left ci
      have cib : decide ((q : Int) < 0) = false := decide_eq_false ci
      have hqz : (q : Int) < (l0.length : Int) := by omega
      have hq0 : (0 : Int) ≤ q := by omega
      obtain ⟨ad, e0, hx0, hx1, hx2⟩ := at_T87 HR0.out (q : Int) hq0 hqz
      cases e0
      rw [Int.toNat_natCast] at hx0 hx1 hx2
      have hu87 := Try.underlying87
      clear ci HI
      replace hq0 := eq_true hq0
      replace hqz := eq_true hqz
      go_enter Try.func37, Try.ntmps37
      go_wp2_with (go_at_call 57; refine hcon.mono ?_; rintro e w' ⟨rfl, hb⟩; have BK := Aside0.mk ((hb.block (w.heap.size + 1) (by simp)).trans hblk); have HB := Aside0.mk (below_then (((Below.refl _ w).alloc (Nat.le_refl _) _).alloc (by simp) _) (by simp; omega) hb); have hz0 : w'.cell? ⟨w.heap.size + 1, 0, none⟩ = some (.int .i64 0) := (blk_cell BK.out 0).trans rfl; have hz1 : w'.cell? ⟨w.heap.size + 1, 1, none⟩ = some (.string (⟨#[]⟩ : ByteArray)) := (blk_cell BK.out 1).trans rfl; have hz2 : w'.cell? ⟨w.heap.size + 1, 2, none⟩ = some (.bool false) := (blk_cell BK.out 2).trans rfl; have hf0 := blk_frozen BK.out 0; have hf1 := blk_frozen BK.out 1; have hf2 := blk_frozen BK.out 2; replace hx0 := (HB.out.cell (World.block_lt_of_cell? w _ hx0)).trans hx0; replace hx1 := (HB.out.cell (World.block_lt_of_cell? w _ hx1)).trans hx1; replace hx2 := (HB.out.cell (World.block_lt_of_cell? w _ hx2)).trans hx2; clear hb hblk hcon)
      refine bodyPost_ret (results_ct rfl _ _ (w.heap.size + 1) 87 #[.int .i64 (rd_T87 l0 (q : Int)).f0, .string (rd_T87 l0 (q : Int)).f1, .bool (rd_T87 l0 (q : Int)).f2] (0, 0) _ rfl (by refine blk_put (cs := #[.int .i64 (rd_T87 l0 (q : Int)).f0, .string (rd_T87 l0 (q : Int)).f1, .bool false]) ?_ 2 _ rfl; refine blk_put (cs := #[.int .i64 (rd_T87 l0 (q : Int)).f0, .string (⟨#[]⟩ : ByteArray), .bool false]) ?_ 1 _ rfl; refine blk_put (cs := #[.int .i64 0, .string (⟨#[]⟩ : ByteArray), .bool false]) ?_ 0 _ rfl; exact BK.out) Try.underlying87 rfl (by kernel_rfl)) rfl ?_
      exact ⟨rfl, below_set (below_set (below_set HB.out (Nat.le_succ _)) (Nat.le_succ _)) (Nat.le_succ _)⟩
  · cases h

end Go.Proofs.Ytkflgkmblebdmaa.B

namespace Go.Proofs.Ytkflgkmblebdmaa.Lib
open Go.RowKit Go.Proofs.Ytkflgkmblebdmaa.B Go.Proofs.YtkflgkmblebdmaaW.PrintWords Go.Proofs.YtkflgkmblebdmaaW.PrintLast
set_option linter.unusedVariables false
set_option linter.unusedSimpArgs false
theorem wr1 {x : Int} (h0 : -9223372036854775808 ≤ x) (h : x ≤ 9223372036854775807) : wrap64 x = x := by
  unfold wrap64; omega
theorem rd87 (l : List S87) (n : Nat) (h : n < l.length) : rd_T87 l (n : Int) = l[n] := by
  unfold rd_T87
  simp [List.getD_eq_getElem?_getD, List.getElem?_eq_getElem h]
def vmay (x : S87) : Bool := decide (1 ≤ x.f0) && (decide (x.f0 ≤ 1099511627776) && (decide (x.f1.size ≤ 256) && (!x.f2 || x.f1.toList == [])))
theorem val_eq (s : ByteArray) : record_Value.f s = some (if 256 < s.size then 31 else 0) := by
  unfold record_Value.f
  by_cases h : 256 < s.size
  · rw [if_pos (by omega), if_pos h]
  · rw [if_neg (by omega), if_neg h]
theorem valR_eq (s : ByteArray) : cressetref03_Value.f s = some (if 256 < s.size then 31 else 0) := by
  unfold cressetref03_Value.f
  by_cases h : 256 < s.size
  · rw [if_pos (by omega), if_pos h]
  · rw [if_neg (by omega), if_neg h]
theorem may_eq (x : S87) : version_may.f x.f0 x.f1 x.f2 = some (vmay x) := by
  unfold version_may.f vmay
  rw [val_eq]
  by_cases h1 : x.f0 ≥ 1
  · rw [if_pos h1, decide_eq_true h1, Bool.true_and]
    by_cases h2 : x.f0 ≤ 1099511627776
    · rw [if_pos h2, decide_eq_true h2, Bool.true_and, Option.bind_some]
      by_cases h3 : 256 < x.f1.size
      · rw [if_pos h3, if_neg (by decide), decide_eq_false (by omega)]; rfl
      · rw [if_neg h3, if_pos rfl, decide_eq_true (by omega), Bool.true_and]
        cases x.f2 <;> rfl
    · rw [if_neg h2, decide_eq_false h2]; rfl
  · rw [if_neg h1, decide_eq_false h1]; rfl
theorem mayR_eq (x : S87) : cressetref15_may.f x.f0 x.f1 x.f2 = some (vmay x) := by
  unfold cressetref15_may.f vmay
  rw [valR_eq]
  by_cases h1 : x.f0 ≥ 1
  · rw [if_pos h1, decide_eq_true h1, Bool.true_and]
    by_cases h2 : x.f0 ≤ 1099511627776
    · rw [if_pos h2, decide_eq_true h2, Bool.true_and, Option.bind_some]
      by_cases h3 : 256 < x.f1.size
      · rw [if_pos h3, if_neg (by decide), decide_eq_false (by omega)]; rfl
      · rw [if_neg h3, if_pos rfl, decide_eq_true (by omega), Bool.true_and]
        cases x.f2 <;> rfl
    · rw [if_neg h2, decide_eq_false h2]; rfl
  · rw [if_neg h1, decide_eq_false h1]; rfl
def gt (l : List S87) (n : Nat) : S87 := l.getD n z87
theorem gt_eq (l : List S87) (n : Nat) (h : n < l.length) : gt l n = l[n] := by
  unfold gt
  simp [List.getD_eq_getElem?_getD, List.getElem?_eq_getElem h]
def ck (l : List S87) : Nat → Nat → Int
  | 0, _ => 0
  | d + 1, n => if vmay (gt l n) = true then (if 0 < n ∧ (gt l n).f0 ≥ (gt l (n - 1)).f0 then 151 else ck l d (n + 1)) else 151
def chk (l : List S87) : Int := if l.length > 1024 then 3 else ck l l.length 0
theorem check_loop (l : List S87) (hl : l.length ≤ 9223372036854775000) : ∀ (d n : Nat), n + d = l.length → Ev (fun k => version_Check.l0 k l l (l.length : Int) (n : Int)) (ck l d n)
  | 0, n, h => by
    refine Ev.step (f := fun _ => some 0) (fun k => ?_) (Ev.now _)
    simp only [version_Check.l0]
    rw [if_neg (by omega)]
  | d + 1, n, h => by
    have hn : n < l.length := by omega
    have e : wrap64 ((n : Int) + 1) = ((n + 1 : Nat) : Int) := by rw [wr1 (by omega) (by omega)]; omega
    have ih := check_loop l hl d (n + 1) (by omega)
    unfold ck
    rw [gt_eq l n hn]
    refine Ev.step (fun k => by simp only [version_Check.l0]; rw [if_pos (by omega), if_pos (by omega), if_pos (by omega), rd87 l n hn, may_eq]) ?_
    simp only [Option.bind_some]
    by_cases h1 : vmay l[n] = true
    · simp only [if_pos h1]
      by_cases h0 : n = 0
      · subst h0
        simp only [if_neg (show ¬ ((0 : Nat) : Int) > 0 by omega), if_neg (show ¬ (0 < 0 ∧ l[0].f0 ≥ (gt l (0 - 1)).f0) by omega), e]
        exact ih
      · obtain ⟨m, rfl⟩ : ∃ m, n = m + 1 := ⟨n - 1, by omega⟩
        have hm : m < l.length := by omega
        have e2 : wrap64 (((m + 1 : Nat) : Int) - 1) = (m : Int) := by rw [wr1 (by omega) (by omega)]; omega
        simp only [if_pos (show ((m + 1 : Nat) : Int) > 0 by omega), e2, if_pos (show (0 : Int) ≤ m by omega), if_pos (show (m : Int) < l.length by omega), rd87 l m hm, Nat.add_sub_cancel, gt_eq l m hm, e]
        by_cases h2 : l[m + 1].f0 ≥ l[m].f0
        · simp only [if_pos h2, if_pos (show 0 < m + 1 ∧ l[m + 1].f0 ≥ l[m].f0 from ⟨by omega, h2⟩)]
          exact Ev.now _
        · simp only [if_neg h2, if_neg (show ¬ (0 < m + 1 ∧ l[m + 1].f0 ≥ l[m].f0) from fun h => h2 h.2)]
          exact ih
    · simp only [if_neg h1]
      exact Ev.now _
theorem checkR_loop (l : List S87) (hl : l.length ≤ 9223372036854775000) : ∀ (d n : Nat), n + d = l.length → Ev (fun k => cressetref15_Check.l0 k l (n : Int)) (ck l d n)
  | 0, n, h => by
    refine Ev.step (f := fun _ => some 0) (fun k => ?_) (Ev.now _)
    simp only [cressetref15_Check.l0]
    rw [if_neg (by omega)]
  | d + 1, n, h => by
    have hn : n < l.length := by omega
    have e : wrap64 ((n : Int) + 1) = ((n + 1 : Nat) : Int) := by rw [wr1 (by omega) (by omega)]; omega
    have ih := checkR_loop l hl d (n + 1) (by omega)
    unfold ck
    rw [gt_eq l n hn]
    refine Ev.step (fun k => by simp only [cressetref15_Check.l0]; rw [if_pos (by omega), if_pos (by omega), rd87 l n hn, mayR_eq]) ?_
    simp only [Option.bind_some]
    by_cases h1 : vmay l[n] = true
    · simp only [if_pos h1]
      by_cases h0 : n = 0
      · subst h0
        simp only [if_neg (show ¬ ((0 : Nat) : Int) > 0 by omega), if_neg (show ¬ (0 < 0 ∧ l[0].f0 ≥ (gt l (0 - 1)).f0) by omega), e]
        exact ih
      · obtain ⟨m, rfl⟩ : ∃ m, n = m + 1 := ⟨n - 1, by omega⟩
        have hm : m < l.length := by omega
        have e2 : wrap64 (((m + 1 : Nat) : Int) - 1) = (m : Int) := by rw [wr1 (by omega) (by omega)]; omega
        simp only [if_pos (show ((m + 1 : Nat) : Int) > 0 by omega), e2, if_pos (show (0 : Int) ≤ m by omega), if_pos (show (m : Int) < l.length by omega), rd87 l m hm, Nat.add_sub_cancel, gt_eq l m hm, e]
        by_cases h2 : l[m + 1].f0 ≥ l[m].f0
        · simp only [if_pos h2, if_pos (show 0 < m + 1 ∧ l[m + 1].f0 ≥ l[m].f0 from ⟨by omega, h2⟩)]
          exact Ev.now _
        · simp only [if_neg h2, if_neg (show ¬ (0 < m + 1 ∧ l[m + 1].f0 ≥ l[m].f0) from fun h => h2 h.2)]
          exact ih
    · simp only [if_neg h1]
      exact Ev.now _
theorem check_ev (l : List S87) : Ev (fun k => version_Check.f k l) (chk l) := by
  unfold chk
  by_cases h : l.length > 1024
  · rw [if_pos h]
    exact Ev.congr (f := fun _ => some 3) (fun k => by unfold version_Check.f; rw [if_pos (by omega)]) (Ev.now _)
  · rw [if_neg h]
    exact Ev.congr (f := fun k => version_Check.l0 k l l (l.length : Int) ((0 : Nat) : Int)) (fun k => by unfold version_Check.f; rw [if_neg (by omega)]; rfl) (check_loop l (by omega) l.length 0 (by omega))
theorem checkR_ev (l : List S87) : Ev (fun k => cressetref15_Check.f k l) (chk l) := by
  unfold chk
  by_cases h : l.length > 1024
  · rw [if_pos h]
    exact Ev.congr (f := fun _ => some 3) (fun k => by unfold cressetref15_Check.f; rw [if_pos (by omega)]) (Ev.now _)
  · rw [if_neg h]
    exact Ev.congr (f := fun k => cressetref15_Check.l0 k l ((0 : Nat) : Int)) (fun k => by unfold cressetref15_Check.f; rw [if_neg (by omega)]; rfl) (checkR_loop l (by omega) l.length 0 (by omega))
def seen (l : List S87) (ts : Int) : Int × ByteArray × Bool × Bool := match l.find? (fun x => decide (x.f0 ≤ ts)) with
  | none => (0, ⟨#[]⟩, false, false)
  | some x => (x.f0, x.f1, x.f2, true)
theorem find_first {l : List S87} {p : S87 → Bool} {i : Nat} (h : i < l.length) (hp : p l[i] = true) (hn : ∀ j (hj : j < i), p (l[j]'(by omega)) = false) : l.find? p = some l[i] := by
  rw [List.find?_eq_some_iff_getElem]
  exact ⟨hp, i, h, rfl, fun j hj => by rw [hn j hj]; rfl⟩
theorem at_eq (l : List S87) (ts : Int) (hl : l.length ≤ 9223372036854775807) : version_At.f l ts = some (seen l ts) := by
  unfold version_At.f
  rw [if_pos hl]
  rcases Sl.idxI_cases (fun x : S87 => decide (x.f0 ≤ ts)) l z87 with ⟨h, hn⟩ | ⟨i, hi, h, hp, hn⟩
  · rw [h, if_pos (by decide)]
    have : l.find? (fun x => decide (x.f0 ≤ ts)) = none := by
      rw [List.find?_eq_none]
      intro x hx
      obtain ⟨j, hj, rfl⟩ := List.mem_iff_getElem.1 hx
      have := hn j hj
      rw [List.getD_eq_getElem?_getD, List.getElem?_eq_getElem hj] at this
      simpa using this
    unfold seen
    rw [this]
  · rw [h, if_neg (by omega), rd87 l i hi]
    have : l.find? (fun x => decide (x.f0 ≤ ts)) = some l[i] := find_first hi (by rw [List.getD_eq_getElem?_getD, List.getElem?_eq_getElem hi] at hp; simpa using hp) (fun j hj => by
      have := hn j hj
      rw [List.getD_eq_getElem?_getD, List.getElem?_eq_getElem (by omega)] at this
      simpa using this)
    unfold seen
    rw [this]
theorem atR_loop (l : List S87) (ts : Int) (hl : l.length ≤ 9223372036854775000) : ∀ (d n : Nat), n + d = l.length → Ev (fun k => cressetref15_At.l0 k l ts (n : Int)) (seen (l.drop n) ts)
  | 0, n, h => by
    rw [List.drop_of_length_le (by omega)]
    refine Ev.step (f := fun _ => some (0, ⟨#[]⟩, false, false)) (fun k => ?_) (Ev.now _)
    simp only [cressetref15_At.l0]
    rw [if_neg (by omega)]
  | d + 1, n, h => by
    have hn : n < l.length := by omega
    have e : wrap64 ((n : Int) + 1) = ((n + 1 : Nat) : Int) := by rw [wr1 (by omega) (by omega)]; omega
    have ih := atR_loop l ts hl d (n + 1) (by omega)
    rw [List.drop_eq_getElem_cons hn]
    by_cases h1 : l[n].f0 ≤ ts
    · have : seen (l[n] :: l.drop (n + 1)) ts = (l[n].f0, l[n].f1, l[n].f2, true) := by unfold seen; rw [List.find?_cons, decide_eq_true h1]
      rw [this]
      refine Ev.step (f := fun _ => some (l[n].f0, l[n].f1, l[n].f2, true)) (fun k => ?_) (Ev.now _)
      simp only [cressetref15_At.l0]
      rw [if_pos (by omega), if_pos (by omega), rd87 l n hn, if_pos h1]
    · have : seen (l[n] :: l.drop (n + 1)) ts = seen (l.drop (n + 1)) ts := by unfold seen; rw [List.find?_cons, decide_eq_false h1]
      rw [this]
      refine Ev.step (fun k => ?_) ih
      simp only [cressetref15_At.l0]
      rw [if_pos (by omega), if_pos (by omega), rd87 l n hn, if_neg h1, e]
theorem atR_ev (l : List S87) (ts : Int) (hl : l.length ≤ 9223372036854775000) : Ev (fun k => cressetref15_At.f k l ts) (seen l ts) := atR_loop l ts hl l.length 0 (by omega)
def Good (l : List S87) : Prop := l.length ≤ 1024 ∧ (∀ x ∈ l, vmay x = true) ∧ l.Pairwise (fun x y => y.f0 < x.f0)
theorem ck_good (l : List S87) : ∀ (d n : Nat), n + d = l.length → (ck l d n = 0 ↔ ∀ i, n ≤ i → (hi : i < l.length) → vmay l[i] = true ∧ (∀ (h0 : 0 < i), l[i].f0 < (l[i - 1]'(by omega)).f0))
  | 0, n, h => by
    constructor
    · intro _ i hn hi; omega
    · intro _; rfl
  | d + 1, n, h => by
    have hn : n < l.length := by omega
    have ih := ck_good l d (n + 1) (by omega)
    unfold ck
    rw [gt_eq l n hn]
    by_cases h1 : vmay l[n] = true
    · rw [if_pos h1]
      by_cases h2 : 0 < n ∧ l[n].f0 ≥ (gt l (n - 1)).f0
      · rw [if_pos h2]
        refine ⟨fun h => (by cases h), fun h => ?_⟩
        have h3 := (h n (Nat.le_refl _) hn).2 h2.1
        have h4 := h2.2
        rw [gt_eq l (n - 1) (by omega)] at h4
        omega
      · rw [if_neg h2, ih]
        refine ⟨fun h i hi hl => ?_, fun h i hi hl => h i (by omega) hl⟩
        by_cases e : i = n
        · subst e
          refine ⟨h1, fun h0 => ?_⟩
          rw [gt_eq l (i - 1) (by omega)] at h2
          omega
        · exact h i (by omega) hl
    · rw [if_neg h1]
      exact ⟨fun h => (by cases h), fun h => absurd (h n (Nat.le_refl _) hn).1 h1⟩
theorem chk_good (l : List S87) : chk l = 0 ↔ Good l := by
  unfold chk Good
  by_cases h : l.length > 1024
  · rw [if_pos h]
    exact ⟨fun h => (by cases h), fun hg => absurd hg.1 (by omega)⟩
  · rw [if_neg h, ck_good l l.length 0 (by omega)]
    constructor
    · intro hi
      refine ⟨by omega, fun x hx => ?_, ?_⟩
      · obtain ⟨i, hi2, rfl⟩ := List.mem_iff_getElem.1 hx
        exact (hi i (Nat.zero_le _) hi2).1
      · rw [List.pairwise_iff_getElem]
        intro i j hil hjl hij
        obtain ⟨d, rfl⟩ : ∃ d, j = i + 1 + d := ⟨j - (i + 1), by omega⟩
        induction d with
        | zero => exact (hi (i + 1) (by omega) hjl).2 (by omega)
        | succ d ih =>
          have h1 := ih (by omega) (by omega)
          have h2 := (hi (i + 1 + (d + 1)) (by omega) hjl).2 (by omega)
          have h3 : (l[i + 1 + (d + 1) - 1]'(by omega)) = l[i + 1 + d]'(by omega) := by congr 1
          rw [h3] at h2
          omega
    · rintro ⟨_, hm, hp⟩ i _ hil
      refine ⟨hm _ (List.getElem_mem hil), fun h0 => ?_⟩
      exact List.pairwise_iff_getElem.1 hp (i - 1) i (by omega) hil (by omega)
end Go.Proofs.Ytkflgkmblebdmaa.Lib

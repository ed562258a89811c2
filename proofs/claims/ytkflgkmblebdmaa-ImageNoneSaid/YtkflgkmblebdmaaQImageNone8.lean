/-
Of the row ImageNone: printed walks and plain laws, merged (wip/claim2.py).
-/
import Derived.Test.YtkflgkmblebdmaaQImageNone7
import Derived.RangeFuncNested
import Derived.RangeFuncBound
import Derived.RangeFuncCalls
import Derived.RangeFuncLeaves
import Derived.RangeFuncMany
import Derived.RangeFuncFrom
import Derived.Shelf.Abstract
import Derived.Shelf.RegionOpen
import Derived.WalkKit
import Derived.OwnWalkIn
import Derived.TacticsInMore
import Derived.LoopNIn
import Derived.LoopIn
import Derived.Deep.Heap
set_option linter.unusedVariables false
set_option linter.unusedSimpArgs false
namespace Go.Proofs.Ytkflgkmblebdmaa.Im
open Go.RowKit Go.Shelf Go.Proofs.Ytkflgkmblebdmaa.B Go.Proofs.YtkflgkmblebdmaaW.PrintWords Go.Proofs.YtkflgkmblebdmaaW.PrintLast Go.Proofs.YtkflgkmblebdmaaW.PrintMore Go.Proofs.YtkflgkmblebdmaaW.Mine Go.Proofs.YtkflgkmblebdmaaW.Hp
theorem rf_none {P : Program} {n : Nat} {g : Operand} {ps : Array Tmp} {assign body : Code} {Q : Exit → Act → World → Prop} {a : Act} {w : World}
    (h1 : 1 ≤ n) {gf : Nat} {lb : Array Value} (hg : a.eval g = .func (.func gf) #[] lb) (eg : ∀ args w, (callFunc gf args).run P w = .ok (.enter gf args) w)
    (hcall : ∀ l W, Below w.heap.size w W → CallsIn Fence.wide (n - 1) P gf (#[.func (.yield l) #[] #[]] ++ lb) W fun e W' => (∃ v, e = .returned v) ∧ W' = W)
    (hdone : ∀ (D : Nat) (W : World), w.heap.size ≤ D → Below w.heap.size w W → W.heap[D]? = some (.deferred (some [])) → Q .normal { a with defers := { target := .collected D, args := #[] } :: a.defers } W) :
    (Code.rangeFunc g ps assign body).wpIn Fence.wide n P Q a w := by
  refine wpIn_rangeFunc ?_
  intro fn hfn
  rw [show Fence.wide.round = none from rfl]
  obtain ⟨rec, hrec⟩ : ∃ rec : LoopState → Option Code → Loop, rec = fun st pe => { state := st, pending := pe, fn, tmps := a.tmps, params := ps, assign, body, defers := w.heap.size } := ⟨_, rfl⟩
  obtain ⟨W1, hW1⟩ : ∃ W1, (w.alloc (.deferred (some []))).alloc (.loop (rec .ready none)) = W1 := ⟨_, rfl⟩
  have hL1 : W1.heap[w.heap.size + 1]? = some (.loop (rec .ready none)) := by
    rw [← hW1]; have := World.alloc_heap_new (w.alloc (.deferred (some []))) (.loop (rec .ready none)); rwa [World.size_alloc] at this
  have hK1 : W1.heap[w.heap.size]? = some (.deferred (some [])) := by
    rw [← hW1]; exact (Below.heap_alloc _ _ _ (by simp)).trans (World.alloc_heap_new w _)
  have hb1 : Below w.heap.size w W1 := by
    rw [← hW1]; exact ((Below.refl _ w).alloc (Nat.le_refl _) _).alloc (by simp) _
  refine ⟨w.heap.size + 1, [{ target := .collected w.heap.size, args := #[] }], W1, { target := .fn (.func gf) lb, args := #[.func (.yield (w.heap.size + 1)) #[] #[]] }, W1, gf,
    #[.func (.yield (w.heap.size + 1)) #[] #[]] ++ lb, W1, ?_, ?_, ?_, ?_, fun _ => h1, ?_⟩
  · rw [← hW1, hrec]; exact run_enterLoop_outer _ _ _ _ _
  · simp only [resolve, hg]
    simp [go_sem]
  · intro f' hf'; trivial
  · simp [invoke, go_sem, eg]
  · refine (hcall (w.heap.size + 1) W1 hb1).mono ?_
    rintro e W2 ⟨⟨v, rfl⟩, rfl⟩
    exact ⟨none, _, by have := run_endLoop (P := P) hL1 (by rw [hrec]; simp); rw [hrec] at this; exact this, hdone _ _ (Nat.le_refl _) (hb1.trans (belowK_b (w := w) (Nat.le_refl _) W2 (w.heap.size + 1) _ _ (by omega) hL1 rfl rfl)) ((World.putObj_heap_other (by omega)).trans hK1)⟩
def NoImg (p : Value) (w : World) : Prop := p = .pointer none ∨ ∃ b, p = .pointer (some ⟨b, 0, none⟩) ∧ w.cell? ⟨b, 3, none⟩ = some (.bool false)
theorem NoImg.below {p : Value} {w W : World} (h : NoImg p w) (hb : Below w.heap.size w W) : NoImg p W := by
  rcases h with rfl | ⟨b, rfl, h⟩
  · exact .inl rfl
  · exact .inr ⟨b, rfl, (hb.cell (World.block_lt_of_cell? w _ h)).trans h⟩
theorem NoImg.no {p : Value} {w : World} (h : NoImg p w) : Calls Try.prog 34 #[p] w fun e w' => e = .returned (.bool true) ∧ w = w' := by
  rcases h with rfl | ⟨b, rfl, h⟩
  · exact none_nil w
  · exact none_calls b w false h
theorem add_no {p : Value} {w : World} (h : NoImg p w) (key : ByteArray) (A : Option Addr) (n c : Nat) : Calls Try.prog 13 #[p, .string key, .slice A n c] w fun e w' => e = .returned (.int .i64 2) ∧ w = w' := by
  go_enter Try.func13, Try.ntmps13
  go_wp2_with (go_at_call 34; refine h.no.mono ?_; rintro e w' ⟨rfl, rfl⟩)
  go_ret
  exact ⟨rfl, rfl⟩
theorem from_no {p : Value} {w : World} (h : NoImg p w) : Calls Try.prog 15 #[p] w fun e w' => e = .returned (.string ⟨#[]⟩) ∧ w = w' := by
  go_enter Try.func15, Try.ntmps15
  go_wp2_with (go_at_call 34; refine h.no.mono ?_; rintro e w' ⟨rfl, rfl⟩)
  go_ret
  exact ⟨rfl, rfl⟩
theorem ts_no {p : Value} {w : World} (h : NoImg p w) : Calls Try.prog 21 #[p] w fun e w' => e = .returned (.int .i64 0) ∧ w = w' := by
  go_enter Try.func21, Try.ntmps21
  go_wp2_with (go_at_call 34; refine h.no.mono ?_; rintro e w' ⟨rfl, rfl⟩)
  go_ret
  exact ⟨rfl, rfl⟩
theorem len_no {p : Value} {w : World} (h : NoImg p w) : Calls Try.prog 17 #[p] w fun e w' => e = .returned (.int .i64 0) ∧ w = w' := by
  go_enter Try.func17, Try.ntmps17
  go_wp2_with (go_at_call 34; refine h.no.mono ?_; rintro e w' ⟨rfl, rfl⟩)
  go_ret
  exact ⟨rfl, rfl⟩
theorem values_calls (w : World) (A : Option Addr) (n c : Nat) : Calls Try.prog 46 #[.slice A n c] w fun e w' => e = .returned (.func (.func 67) #[] #[.pointer (some ⟨w.heap.size, 0, none⟩)]) ∧ w' = w.alloc (.cells #[.slice A n c] 38) := by
  go_enter Try.func46, Try.ntmps46
  go_wp2
  go_ret
  exact ⟨rfl, rfl⟩
theorem pairs_no {p : Value} {w : World} (h : NoImg p w) : Calls Try.prog 25 #[p] w fun e w' => e = .returned (.func (.func 67) #[] #[.pointer (some ⟨w.heap.size, 0, none⟩)]) ∧ w' = w.alloc (.cells #[.slice none 0 0] 38) := by
  go_enter Try.func25, Try.ntmps25
  go_wp2_with (first | (go_at_call 34; refine h.no.mono ?_; rintro e w' ⟨rfl, rfl⟩) | (go_at_call 46; refine (values_calls w _ _ _).mono ?_; rintro e w' ⟨rfl, rfl⟩))
  go_ret
  exact ⟨rfl, rfl⟩
theorem cb {W : World} {B : Nat} {v : Value} {t : TypeId} (h : W.heap[B]? = some (.cells #[v] t (0, 0))) : W.cell? ⟨B, 0, none⟩ = some v ∧ W.frozen? ⟨B, 0, none⟩ = false := by
  constructor <;> simp [World.cell?, World.frozen?, h]
theorem cn (W : World) (v : Value) (t : TypeId) : (W.alloc (.cells #[v] t)).cell? ⟨W.heap.size, 0, none⟩ = some v ∧ (W.alloc (.cells #[v] t)).frozen? ⟨W.heap.size, 0, none⟩ = false := cb (World.alloc_heap_new W _)
theorem ck {W : World} {a : Addr} {v : Value} (o : Obj) (h : W.cell? a = some v) : (W.alloc o).cell? a = some v := cell_kept h (World.grownBy_alloc W o none) (fun r e => by cases e)
theorem fk {W : World} {a : Addr} {v : Value} (o : Obj) (h : W.cell? a = some v) (hf : W.frozen? a = false) : (W.alloc o).frozen? a = false := (frozen_kept h (World.grownBy_alloc W o none) (fun r e => by cases e)).trans hf
theorem css {W : World} {a : Addr} {u v : Value} (h : W.cell? a = some u) : (W.setCell a v).cell? a = some v := World.cell?_setCell_same' _ _ _ (by rw [h]; rfl)
theorem bf {w W : World} {a : Addr} {v : Value} (hb : Below w.heap.size w W) (hc : w.cell? a = some v) (hf : w.frozen? a = false) : W.frozen? a = false := by
  have := hb.block a.block (World.block_lt_of_cell? _ _ hc)
  unfold World.frozen? at *
  rw [this]
  exact hf
theorem bc {w W : World} {a : Addr} {v : Value} (hb : Below w.heap.size w W) (hc : w.cell? a = some v) : W.cell? a = some v := (hb.cell (World.block_lt_of_cell? _ _ hc)).trans hc
theorem in67 (b l : Nat) (m : Nat) (W : World) (h : W.cell? ⟨b, 0, none⟩ = some (.slice none 0 0)) : CallsIn Fence.wide m Try.prog 67 #[.func (.yield l) #[] #[], .pointer (some ⟨b, 0, none⟩)] W fun e W' => (∃ v, e = .returned v) ∧ W' = W := by
  refine callsIn_of_wp Try.func67 rfl trivial ?_ rfl
  simp only [Try.ntmps67, List.size_toArray, List.length_cons, List.length_nil, Nat.reduceAdd, Nat.reduceSub, Array.replicate_succ, Array.replicate_zero, List.push_toArray, List.append_toArray, List.nil_append, List.cons_append]
  gi_wp2
  gi_loopw [7] (fun p wr => p = .int .i64 0 ∧ wr = W) (fun _ _ => 0)
  case atStart => exact ⟨rfl, rfl⟩
  case round =>
    obtain ⟨rfl, rfl⟩ := hrel
    gi_wp2
    exact bodyPost_end (results_none rfl _ _ _) rfl ⟨⟨_, rfl⟩, rfl⟩
theorem in47 (b d l : Nat) (m : Nat) (W : World) (h : W.cell? ⟨b, 0, none⟩ = some (.bool true)) : CallsIn Fence.wide m Try.prog 47 #[.func (.yield l) #[] #[], .pointer (some ⟨b, 0, none⟩), .pointer (some ⟨d, 0, none⟩)] W fun e W' => (∃ v, e = .returned v) ∧ W' = W := by
  refine callsIn_of_wp Try.func47 rfl trivial ?_ rfl
  simp only [Try.ntmps47, List.size_toArray, List.length_cons, List.length_nil, Nat.reduceAdd, Nat.reduceSub, Array.replicate_succ, Array.replicate_zero, List.push_toArray, List.append_toArray, List.nil_append, List.cons_append]
  gi_wp2
  refine bodyPost_ret (results_none rfl _ _ _) rfl ?_
  exact ⟨⟨_, rfl⟩, rfl⟩
set_option maxRecDepth 100000 in
set_option maxHeartbeats 2000000 in
theorem in42 (b : Nat) (w : World) (h : w.cell? ⟨b, 0, none⟩ = some (.slice none 0 0)) : CallsIn Fence.wide 2 Try.prog 42 #[.func (.func 67) #[] #[.pointer (some ⟨b, 0, none⟩)], .slice none 0 0, .int .i64 0] w fun e W' => e = .returned (.bool true) ∧ Below w.heap.size w W' := by
  refine callsIn_of_wp_marks Try.func42 rfl trivial ?_ rfl
  simp only [Try.ntmps42, List.size_toArray, List.length_cons, List.length_nil, Nat.reduceAdd, Nat.reduceSub, Array.replicate_succ, Array.replicate_zero, List.push_toArray, List.append_toArray, List.nil_append, List.cons_append]
  gi_wp2
  have c0 := cn w (.slice none 0 0) 38
  obtain ⟨W1, hW1⟩ : ∃ W1, w.alloc (.cells #[.slice none 0 0] 38) = W1 := ⟨_, rfl⟩
  rw [hW1] at c0 ⊢
  have hb1 : W1.cell? ⟨b, 0, none⟩ = some (.slice none 0 0) := by rw [← hW1]; exact ck _ h
  have s1 : W1.heap.size = w.heap.size + 1 := by rw [← hW1, World.size_alloc]
  have b1 : Below w.heap.size w W1 := by rw [← hW1]; exact (Below.refl _ w).alloc (Nat.le_refl _) _
  replace c0 := And.intro (ck (.cells #[.int .i64 0] 3) c0.1) (fk (.cells #[.int .i64 0] 3) c0.1 c0.2)
  replace hb1 := ck (.cells #[.int .i64 0] 3) hb1
  have b2 := b1.alloc b1.size (.cells #[.int .i64 0] 3)
  obtain ⟨W2, hW2⟩ : ∃ W2, W1.alloc (.cells #[.int .i64 0] 3) = W2 := ⟨_, rfl⟩
  have s2 : W2.heap.size = w.heap.size + 1 + 1 := by rw [← hW2, World.size_alloc, s1]
  rw [hW2] at c0 b2 hb1 ⊢
  have c2 := cn W2 (.bool false) 4
  replace c0 := And.intro (ck (.cells #[.bool false] 4) c0.1) (fk (.cells #[.bool false] 4) c0.1 c0.2)
  replace hb1 := ck (.cells #[.bool false] 4) hb1
  have b3 := b2.alloc b2.size (.cells #[.bool false] 4)
  obtain ⟨W3, hW3⟩ : ∃ W3, W2.alloc (.cells #[.bool false] 4) = W3 := ⟨_, rfl⟩
  have s3 : W3.heap.size = w.heap.size + 1 + 1 + 1 := by rw [← hW3, World.size_alloc, s2]
  rw [hW3] at c0 c2 b3 hb1 ⊢
  have c3 := cn W3 (.int .i64 0) 3
  replace c0 := And.intro (ck (.cells #[.int .i64 0] 3) c0.1) (fk (.cells #[.int .i64 0] 3) c0.1 c0.2)
  replace c2 := And.intro (ck (.cells #[.int .i64 0] 3) c2.1) (fk (.cells #[.int .i64 0] 3) c2.1 c2.2)
  replace hb1 := ck (.cells #[.int .i64 0] 3) hb1
  have b4 := b3.alloc b3.size (.cells #[.int .i64 0] 3)
  obtain ⟨W4, hW4⟩ : ∃ W4, W3.alloc (.cells #[.int .i64 0] 3) = W4 := ⟨_, rfl⟩
  have s4 : W4.heap.size = w.heap.size + 1 + 1 + 1 + 1 := by rw [← hW4, World.size_alloc, s3]
  rw [hW4] at c0 c2 c3 b4 hb1 ⊢
  rw [s2] at c2
  rw [s3] at c3
  refine rf_none (by omega) (gf := 67) (lb := #[.pointer (some ⟨b, 0, none⟩)]) rfl (enters_of Try.func67 (by kernel_rfl) rfl) (fun l W hW => in67 b l _ W (bc hW hb1)) ?_
  intro D W hD hW hK
  have d0 := bc hW c0.1
  have d2 := bc hW c2.1
  have y2 := bf hW c2.1 c2.2
  have d3 := bc hW c3.1
  have hBW : Below w.heap.size w W := b4.trans (hW.mono b4.size)
  clear hW hb1 c0 c2 c3 hW4 hW3 hW2 hW1 s1 s2 s3
  gi_wp2
  have hK' := (KeepsOthers.setCell W ⟨w.heap.size + 1 + 1, 0, none⟩ (.bool true)).same D _ hK rfl
  refine ⟨by simp, .inl ⟨_, _, rfl, run_takeDeferred hK', ?_⟩⟩
  have hcs : (W.setCell ⟨w.heap.size + 1 + 1, 0, none⟩ (.bool true)).cell? ⟨w.heap.size + 1 + 1, 0, none⟩ = some (.bool true) := css d2
  have hc5 := cell_kept hcs (grownBy_putObj' _ D (.deferred none)) (fun r e => by cases e; exact ⟨_, hK', rfl⟩)
  refine ⟨.bool true, ?_, rfl, (hBW.setCell (p := ⟨w.heap.size + 1 + 1, 0, none⟩) (show w.heap.size ≤ w.heap.size + 1 + 1 by omega) _).trans (belowK_b (w := w) (Nat.le_refl _) _ D _ _ (by omega) hK' rfl rfl)⟩
  simp [results, Try.f42, go_sem, hc5]
theorem told_no {p : Value} {w : World} (h : NoImg p w) : Calls Try.prog 18 #[p, .slice none 0 0, .int .i64 0] w fun e w' => e = .returned (.bool true) ∧ Below w.heap.size w w' := by
  go_enter Try.func18, Try.ntmps18
  go_wp2_with (go_at_call 25; refine (pairs_no h).mono ?_; rintro e w1 ⟨rfl, rfl⟩)
  obtain ⟨w1, h1⟩ : ∃ w1, w1 = w.alloc (.cells #[.slice none 0 0] 38) := ⟨_, rfl⟩
  rw [← h1]
  have hB1 : Below w.heap.size w w1 := by rw [h1]; exact (Below.refl _ w).alloc (Nat.le_refl _) _
  have hc1 : w1.cell? ⟨w.heap.size, 0, none⟩ = some (.slice none 0 0) := by rw [h1]; exact (cn w _ _).1
  have hn1 := h.below hB1
  clear h1
  have A1 := Aside0.mk hc1
  have A2 := Aside0.mk hn1
  go_wp2_with (first
    | (go_at_call 42; refine (callsIn_wide.1 (in42 w.heap.size w1 A1.out)).mono ?_; rintro e w2 ⟨rfl, hB2⟩; have A3 := Aside0.mk (bc hB2 A1.out); have A4 := Aside0.mk (A2.out.below hB2); have A6 := Aside0.mk (hB1.trans (hB2.mono hB1.size)); clear A1 A2 hc1 hn1 hB2)
    | (go_at_call 42; refine (callsIn_wide.1 (in42 w.heap.size w2 A3.out)).mono ?_; rintro e w3 ⟨rfl, hB3⟩; have A5 := Aside0.mk (A4.out.below hB3); have A7 := Aside0.mk (A6.out.trans (hB3.mono A6.out.size)); clear A3 A4 hB3)
    | (go_at_call 17; refine (len_no A5.out).mono ?_; rintro e w' ⟨rfl, rfl⟩))
  go_ret
  exact ⟨rfl, A7.out⟩
set_option maxRecDepth 100000 in
set_option maxHeartbeats 2000000 in
theorem in26 {p : Value} {w : World} (h : NoImg p w) : CallsIn Fence.wide 2 Try.prog 26 #[p] w fun e W' => (∃ b5 b3, e = .returned (.func (.func 47) #[] #[.pointer (some ⟨b5, 0, none⟩), .pointer (some ⟨b3, 0, none⟩)]) ∧ W'.cell? ⟨b5, 0, none⟩ = some (.bool true)) ∧ Below w.heap.size w W' := by
  refine callsIn_of_wp_marks Try.func26 rfl trivial ?_ rfl
  simp only [Try.ntmps26, List.size_toArray, List.length_cons, List.length_nil, Nat.reduceAdd, Nat.reduceSub, Array.replicate_succ, Array.replicate_zero, List.push_toArray, List.append_toArray, List.nil_append, List.cons_append]
  have hB0 : Below w.heap.size w (w.alloc (.cells #[.slice none 0 0] 38)) := (Below.refl _ w).alloc (Nat.le_refl _) _
  have A0 := Aside0.mk (h.below hB0)
  gi_wp2_with (refine ⟨trivial, ?_⟩; gi_at_call 25; refine (callsIn_wide.2 (pairs_no A0.out)).mono ?_; rintro e w1 ⟨rfl, rfl⟩)
  obtain ⟨w1, h1⟩ : ∃ w1, w1 = (w.alloc (.cells #[.slice none 0 0] 38)).alloc (.cells #[.slice none 0 0] 38) := ⟨_, rfl⟩
  rw [← h1]
  have hB1 : Below w.heap.size w w1 := by rw [h1]; exact hB0.alloc hB0.size _
  have hc1 := (cn (w.alloc (.cells #[.slice none 0 0] 38)) (.slice none 0 0) 38).1
  rw [← h1, World.size_alloc] at hc1
  clear h1
  refine rf_none (by omega) (gf := 67) (lb := #[.pointer (some ⟨w.heap.size + 1, 0, none⟩)]) (by first | rfl | (simp [World.size_alloc]; done) | (rw [World.size_alloc]; rfl)) (enters_of Try.func67 (by kernel_rfl) rfl) (fun l W hW => in67 (w.heap.size + 1) l _ W (bc hW hc1)) ?_
  intro D W hD hW hK
  have hBW : Below w.heap.size w W := hB1.trans (hW.mono hB1.size)
  have A9 := Aside0.mk (h.below hBW)
  have hDw : w.heap.size ≤ D := Nat.le_trans hB1.size hD
  clear hW hc1 hB0 A0
  gi_wp2_with (refine ⟨trivial, ?_⟩; gi_at_call 34; refine (callsIn_wide.2 A9.out.no).mono ?_; rintro e w2 ⟨rfl, rfl⟩)
  obtain ⟨W2, hW2⟩ : ∃ W2, W2 = W.alloc (.cells #[.bool true] 4) := ⟨_, rfl⟩
  rw [← hW2]
  have c5 : W2.cell? ⟨W.heap.size, 0, none⟩ = some (.bool true) := by rw [hW2]; exact (cn W _ _).1
  have hB2 : Below w.heap.size w W2 := by rw [hW2]; exact hBW.alloc hBW.size _
  have hK2 : W2.heap[D]? = some (.deferred (some [])) := by
    rw [hW2]
    have hlt : D < W.heap.size := (Array.getElem?_eq_some_iff.1 hK).1
    exact (Below.heap_alloc _ _ _ hlt).trans hK
  refine ⟨by simp, .inl ⟨_, _, rfl, run_takeDeferred hK2, ?_⟩⟩
  have hc5 := cell_kept c5 (grownBy_putObj' _ D (.deferred none)) (fun r e => by cases e; exact ⟨_, hK2, rfl⟩)
  refine ⟨_, results_tmp rfl _ _ _, ⟨_, _, rfl, hc5⟩, hB2.trans (belowK_b (w := w) (Nat.le_refl _) W2 D _ _ (by omega) hK2 rfl rfl)⟩
set_option maxRecDepth 100000 in
set_option maxHeartbeats 2000000 in
theorem in19 {p : Value} {w : World} (h : NoImg p w) : CallsIn Fence.wide 3 Try.prog 19 #[p, .slice none 0 0] w fun e W' => e = .returned (.bool true) ∧ Below w.heap.size w W' := by
  refine callsIn_of_wp_marks Try.func19 rfl trivial ?_ rfl
  simp only [Try.ntmps19, List.size_toArray, List.length_cons, List.length_nil, Nat.reduceAdd, Nat.reduceSub, Array.replicate_succ, Array.replicate_zero, List.push_toArray, List.append_toArray, List.nil_append, List.cons_append]
  have c0 := cn w (.slice none 0 0) 43
  have b1 : Below w.heap.size w (w.alloc (.cells #[.slice none 0 0] 43)) := (Below.refl _ w).alloc (Nat.le_refl _) _
  obtain ⟨W1, hW1⟩ : ∃ W1, W1 = w.alloc (.cells #[.slice none 0 0] 43) := ⟨_, rfl⟩
  have s1 : W1.heap.size = w.heap.size + 1 := by rw [hW1, World.size_alloc]
  rw [← hW1] at c0 b1
  have c1 := cn W1 (.bool false) 4
  replace c0 := And.intro (ck (.cells #[.bool false] 4) c0.1) (fk (.cells #[.bool false] 4) c0.1 c0.2)
  have b2 := b1.alloc b1.size (.cells #[.bool false] 4)
  obtain ⟨W2, hW2⟩ : ∃ W2, W2 = W1.alloc (.cells #[.bool false] 4) := ⟨_, rfl⟩
  have s2 : W2.heap.size = w.heap.size + 1 + 1 := by rw [hW2, World.size_alloc, s1]
  rw [← hW2] at c0 c1 b2
  have c2 := cn W2 (.int .i64 0) 3
  replace c0 := And.intro (ck (.cells #[.int .i64 0] 3) c0.1) (fk (.cells #[.int .i64 0] 3) c0.1 c0.2)
  replace c1 := And.intro (ck (.cells #[.int .i64 0] 3) c1.1) (fk (.cells #[.int .i64 0] 3) c1.1 c1.2)
  have b3 := b2.alloc b2.size (.cells #[.int .i64 0] 3)
  obtain ⟨W3, hW3⟩ : ∃ W3, W3 = W2.alloc (.cells #[.int .i64 0] 3) := ⟨_, rfl⟩
  rw [← hW3] at c0 c1 c2 b3
  rw [s1] at c1
  rw [s2] at c2
  have A0 := Aside0.mk (h.below b3)
  have A1 := Aside0.mk hW1
  have A2 := Aside0.mk hW2
  have A3 := Aside0.mk hW3
  have hW : W3 = ((w.alloc (.cells #[.slice none 0 0] 43)).alloc (.cells #[.bool false] 4)).alloc (.cells #[.int .i64 0] 3) := by rw [A3.out, A2.out, A1.out]
  have AW := Aside0.mk hW
  clear hW hW1 hW2 hW3 s1 s2 A1 A2 A3
  have AN : Aside0 (NoImg p (((w.alloc (.cells #[.slice none 0 0] 43)).alloc (.cells #[.bool false] 4)).alloc (.cells #[.int .i64 0] 3))) := Aside0.mk (AW.out ▸ A0.out)
  gi_wp2_with (refine ⟨trivial, ?_⟩; gi_at_call 26; refine (callsIn_wide.2 (callsIn_wide.1 (in26 AN.out))).mono ?_; rintro e W4 ⟨⟨b5, q5, rfl, h5⟩, hB4⟩)
  rw [← AW.out] at hB4
  refine rf_none (by omega) (gf := 47) (lb := #[.pointer (some ⟨b5, 0, none⟩), .pointer (some ⟨q5, 0, none⟩)]) rfl (enters_of Try.func47 (by kernel_rfl) rfl) (fun l W hW => in47 b5 q5 l _ W (bc hW h5)) ?_
  intro D W hD hW hK
  have d0 := bc hW (bc hB4 c0.1)
  have d1 := bc hW (bc hB4 c1.1)
  have y1 := bf hW (bc hB4 c1.1) (bf hB4 c1.1 c1.2)
  have d2 := bc hW (bc hB4 c2.1)
  have hBW : Below w.heap.size w W := b3.trans ((hB4.mono b3.size).trans (hW.mono (Nat.le_trans b3.size hB4.size)))
  have hDw : w.heap.size ≤ D := Nat.le_trans (Nat.le_trans b3.size hB4.size) hD
  clear hW c0 c1 c2 A0 AN
  gi_wp2
  have hK' := (KeepsOthers.setCell W ⟨w.heap.size + 1, 0, none⟩ (.bool true)).same D _ hK rfl
  refine ⟨by simp, .inl ⟨_, _, rfl, run_takeDeferred hK', ?_⟩⟩
  have hcs : (W.setCell ⟨w.heap.size + 1, 0, none⟩ (.bool true)).cell? ⟨w.heap.size + 1, 0, none⟩ = some (.bool true) := css d1
  have hc5 := cell_kept hcs (grownBy_putObj' _ D (.deferred none)) (fun r e => by cases e; exact ⟨_, hK', rfl⟩)
  refine ⟨.bool true, ?_, rfl, (hBW.setCell (p := ⟨w.heap.size + 1, 0, none⟩) (show w.heap.size ≤ w.heap.size + 1 by omega) _).trans (belowK_b (w := w) (Nat.le_refl _) _ D _ _ (by omega) hK' rfl rfl)⟩
  simp [results, Try.f19, go_sem, hc5]
set_option maxRecDepth 100000 in
set_option maxHeartbeats 4000000 in
theorem imageNone_calls (w : World) (key : ByteArray) (A : Option Addr) (n c : Nat) : Calls Try.prog 4 #[.agg #[.string key, .slice A n c]] w fun e w' => e = .returned (.bool true) ∧ Below w.heap.size w w' := by
  go_enter Try.func4, Try.ntmps4
  go_wp2_with (go_at_call 12; refine (begun_calls _).mono ?_; rintro e w1 ⟨rfl, hB1⟩)
  obtain ⟨W0, hW0⟩ : ∃ W0, W0 = w.alloc (.cells #[.string key, .slice A n c] 33) := ⟨_, rfl⟩
  have hB0 : Below w.heap.size w W0 := by rw [hW0]; exact (Below.refl _ w).alloc (Nat.le_refl _) _
  have hh := World.alloc_heap_new w (.cells #[.string key, .slice A n c] 33)
  rw [← hW0] at hB1 hh
  have k0 : W0.cell? ⟨w.heap.size, 0, none⟩ = some (.string key) := by simp only [World.cell?, hh]; rfl
  have k1 : W0.cell? ⟨w.heap.size, 1, none⟩ = some (.slice A n c) := by simp only [World.cell?, hh]; rfl
  replace k0 := bc hB1 k0
  replace k1 := bc hB1 k1
  have hBw : Below w.heap.size w w1 := hB0.trans (hB1.mono hB0.size)
  clear hh hW0 hB0 hB1
  have g1 := World.alloc_heap_new w1 (.cells #[.int .i64 0, .string ⟨#[]⟩, .slice none 0 0, .bool false] 48)
  obtain ⟨W1, hW1⟩ : ∃ W1, W1 = w1.alloc (.cells #[.int .i64 0, .string ⟨#[]⟩, .slice none 0 0, .bool false] 48) := ⟨_, rfl⟩
  rw [← hW1] at g1
  have m3 : W1.cell? ⟨w1.heap.size, 3, none⟩ = some (.bool false) := by simp only [World.cell?, g1]; rfl
  have s1 : W1.heap.size = w1.heap.size + 1 := by rw [hW1, World.size_alloc]
  have hb1 : Below w1.heap.size w1 W1 := by rw [hW1]; exact (Below.refl _ w1).alloc (Nat.le_refl _) _
  replace k0 := bc hb1 k0
  replace k1 := bc hb1 k1
  have g2 := World.alloc_heap_new W1 (.cells #[.pointer none, .pointer (some ⟨w1.heap.size, 0, none⟩)] 23)
  obtain ⟨W2, hW2⟩ : ∃ W2, W2 = W1.alloc (.cells #[.pointer none, .pointer (some ⟨w1.heap.size, 0, none⟩)] 23) := ⟨_, rfl⟩
  rw [← hW2] at g2
  have l0 : W2.cell? ⟨W1.heap.size, 0, none⟩ = some (.pointer none) := by simp only [World.cell?, g2]; rfl
  have l1 : W2.cell? ⟨W1.heap.size, 1, none⟩ = some (.pointer (some ⟨w1.heap.size, 0, none⟩)) := by simp only [World.cell?, g2]; rfl
  have hb2 : Below W1.heap.size W1 W2 := by rw [hW2]; exact (Below.refl _ W1).alloc (Nat.le_refl _) _
  replace k0 := bc hb2 k0
  replace k1 := bc hb2 k1
  replace m3 := bc hb2 m3
  rw [s1] at l0 l1
  have hBW : Below w.heap.size w W2 := hBw.trans ((hb1.mono hBw.size).trans (hb2.mono (Nat.le_trans hBw.size hb1.size)))
  rw [hW1] at hW2
  rw [← hW2]
  clear g1 g2 hW1 hW2 hb1 hb2 s1 hBw
  generalize w1.heap.size = d at *
  go_loopw [11] (fun p wr => ∃ i : Int, p = .int .i64 i ∧ (i = 0 ∨ i = 1 ∨ i = 2) ∧ Below w.heap.size w wr ∧ wr.cell? ⟨w.heap.size, 0, none⟩ = some (.string key) ∧ wr.cell? ⟨w.heap.size, 1, none⟩ = some (.slice A n c) ∧ wr.cell? ⟨d, 3, none⟩ = some (.bool false) ∧ wr.cell? ⟨d + 1, 0, none⟩ = some (.pointer none) ∧ wr.cell? ⟨d + 1, 1, none⟩ = some (.pointer (some ⟨d, 0, none⟩))) (fun p wr => 2 - (intOf p).toNat)
  case atStart => exact ⟨0, rfl, .inl rfl, hBW, k0, k1, m3, l0, l1⟩
  case round =>
    clear k0 k1 m3 l0 l1 hBW
    obtain ⟨i, rfl, hi, hBr, k0, k1, m3, l0, l1⟩ := hrel
    rcases hi with rfl | rfl | rfl
    · have A1 : Aside0 (NoImg (.pointer none) wr) := Aside0.mk (.inl rfl)
      go_wp2_with (first
        | (go_at_call 13; refine (add_no A1.out _ _ _ _).mono ?_; rintro e w' ⟨rfl, rfl⟩)
        | (go_at_call 21; refine (ts_no A1.out).mono ?_; rintro e w' ⟨rfl, rfl⟩)
        | (go_at_call 15; refine (from_no A1.out).mono ?_; rintro e w' ⟨rfl, rfl⟩)
        | (go_at_call 18; refine (told_no A1.out).mono ?_; rintro e w2 ⟨rfl, hB2⟩; have A2 := Aside0.mk (A1.out.below hB2))
        | (go_at_call 19; refine (callsIn_wide.1 (in19 A2.out)).mono ?_; rintro e w3 ⟨rfl, hB3⟩))
      go_roundw
      case rel => exact ⟨1, rfl, .inr (.inl rfl), hBr.trans ((hB2.mono hBr.size).trans (hB3.mono (Nat.le_trans hBr.size hB2.size))), bc hB3 (bc hB2 k0), bc hB3 (bc hB2 k1), bc hB3 (bc hB2 m3), bc hB3 (bc hB2 l0), bc hB3 (bc hB2 l1)⟩
      case measure => decide
    · have A1 : Aside0 (NoImg (.pointer (some ⟨d, 0, none⟩)) wr) := Aside0.mk (.inr ⟨d, rfl, m3⟩)
      go_wp2_with (first
        | (go_at_call 13; refine (add_no A1.out _ _ _ _).mono ?_; rintro e w' ⟨rfl, rfl⟩)
        | (go_at_call 21; refine (ts_no A1.out).mono ?_; rintro e w' ⟨rfl, rfl⟩)
        | (go_at_call 15; refine (from_no A1.out).mono ?_; rintro e w' ⟨rfl, rfl⟩)
        | (go_at_call 18; refine (told_no A1.out).mono ?_; rintro e w2 ⟨rfl, hB2⟩; have A2 := Aside0.mk (A1.out.below hB2))
        | (go_at_call 19; refine (callsIn_wide.1 (in19 A2.out)).mono ?_; rintro e w3 ⟨rfl, hB3⟩))
      go_roundw
      case rel => exact ⟨2, rfl, .inr (.inr rfl), hBr.trans ((hB2.mono hBr.size).trans (hB3.mono (Nat.le_trans hBr.size hB2.size))), bc hB3 (bc hB2 k0), bc hB3 (bc hB2 k1), bc hB3 (bc hB2 m3), bc hB3 (bc hB2 l0), bc hB3 (bc hB2 l1)⟩
      case measure => decide
    · go_wp2
      go_ret
      exact ⟨rfl, hBr⟩
end Go.Proofs.Ytkflgkmblebdmaa.Im

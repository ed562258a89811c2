/-
Of the row ValidNone: printed walks and plain laws, merged (wip/claim2.py).
-/
import Derived.Test.YtgbmlkoblcfceaaQValidNone7
import Derived.RangeFuncNested
import Derived.RangeFuncBound
import Derived.RangeFuncCalls
import Derived.RangeFuncLeaves
import Derived.RangeFuncMany
import Derived.RangeFuncFrom
import Derived.Shelf.Abstract
import Derived.Shelf.RegionOpen
import Derived.WalkKit
import Derived.OwnWalkIn
import Derived.TacticsInMore
import Derived.LoopNIn
import Derived.LoopIn
import Derived.Deep.Heap
import Derived.WalkMore
import Derived.Stop.RegionWithIn
set_option linter.unusedVariables false
set_option linter.unusedSimpArgs false
namespace Go.Proofs.Ytgbmlkoblcfceaa.Vn
open Go.RowKit Go.Shelf Go.Proofs.Ytgbmlkoblcfceaa.B Go.Proofs.YtgbmlkoblcfceaaW.PrintWords Go.Proofs.YtgbmlkoblcfceaaW.PrintLast Go.Proofs.YtgbmlkoblcfceaaW.PrintMore Go.Proofs.YtgbmlkoblcfceaaW.Mine Go.Proofs.YtgbmlkoblcfceaaW.Hp Go.Proofs.Ytgbmlkoblcfceaa.Vd
theorem rf_none {P : Program} {n : Nat} {g : Operand} {ps : Array Tmp} {assign body : Code} {Q : Exit → Act → World → Prop} {a : Act} {w : World}
    (h1 : 1 ≤ n) {gf : Nat} {lb : Array Value} (hg : a.eval g = .func (.func gf) #[] lb) (eg : ∀ args w, (callFunc gf args).run P w = .ok (.enter gf args) w)
    (hcall : ∀ l W, Below w.heap.size w W → CallsIn Fence.wide (n - 1) P gf (#[.func (.yield l) #[] #[]] ++ lb) W fun e W' => (∃ v, e = .returned v) ∧ W' = W)
    (hdone : ∀ (D : Nat) (W : World), w.heap.size ≤ D → Below w.heap.size w W → W.heap[D]? = some (.deferred (some [])) → Q .normal { a with defers := { target := .collected D, args := #[] } :: a.defers } W) :
    (Code.rangeFunc g ps assign body).wpIn Fence.wide n P Q a w := by
  refine wpIn_rangeFunc ?_
  intro fn hfn
  rw [show Fence.wide.round = none from rfl]
  obtain ⟨rec, hrec⟩ : ∃ rec : LoopState → Option Code → Loop, rec = fun st pe => { state := st, pending := pe, fn, tmps := a.tmps, params := ps, assign, body, defers := w.heap.size } := ⟨_, rfl⟩
  obtain ⟨W1, hW1⟩ : ∃ W1, (w.alloc (.deferred (some []))).alloc (.loop (rec .ready none)) = W1 := ⟨_, rfl⟩
  have hL1 : W1.heap[w.heap.size + 1]? = some (.loop (rec .ready none)) := by
    rw [← hW1]; have := World.alloc_heap_new (w.alloc (.deferred (some []))) (.loop (rec .ready none)); rwa [World.size_alloc] at this
  have hK1 : W1.heap[w.heap.size]? = some (.deferred (some [])) := by
    rw [← hW1]; exact (Below.heap_alloc _ _ _ (by simp)).trans (World.alloc_heap_new w _)
  have hb1 : Below w.heap.size w W1 := by
    rw [← hW1]; exact ((Below.refl _ w).alloc (Nat.le_refl _) _).alloc (by simp) _
  refine ⟨w.heap.size + 1, [{ target := .collected w.heap.size, args := #[] }], W1, { target := .fn (.func gf) lb, args := #[.func (.yield (w.heap.size + 1)) #[] #[]] }, W1, gf,
    #[.func (.yield (w.heap.size + 1)) #[] #[]] ++ lb, W1, ?_, ?_, ?_, ?_, fun _ => h1, ?_⟩
  · rw [← hW1, hrec]; exact run_enterLoop_outer _ _ _ _ _
  · simp only [resolve, hg]
    simp [go_sem]
  · intro f' hf'; trivial
  · simp [invoke, go_sem, eg]
  · refine (hcall (w.heap.size + 1) W1 hb1).mono ?_
    rintro e W2 ⟨⟨v, rfl⟩, rfl⟩
    exact ⟨none, _, by have := run_endLoop (P := P) hL1 (by rw [hrec]; simp); rw [hrec] at this; exact this, hdone _ _ (Nat.le_refl _) (hb1.trans (belowK_b (w := w) (Nat.le_refl _) W2 (w.heap.size + 1) _ _ (by omega) hL1 rfl rfl)) ((World.putObj_heap_other (by omega)).trans hK1)⟩
def NoV (p : Value) (w : World) : Prop := p = .pointer none ∨ ∃ b, p = .pointer (some ⟨b, 0, none⟩) ∧ w.cell? ⟨b, 0, none⟩ = some (.bool false)
theorem NoV.below {p : Value} {w W : World} (h : NoV p w) (hb : Below w.heap.size w W) : NoV p W := by
  rcases h with rfl | ⟨b, rfl, h⟩
  · exact .inl rfl
  · exact .inr ⟨b, rfl, (hb.cell (World.block_lt_of_cell? w _ h)).trans h⟩
theorem NoV.no {p : Value} {w : World} (h : NoV p w) : Calls Try.prog 30 #[p] w fun e w' => e = .returned (.bool true) ∧ w = w' := by
  rcases h with rfl | ⟨b, rfl, h⟩
  · exact none_nil w
  · exact none_calls b w false h
theorem check_no {p : Value} {w : World} (h : NoV p w) (ts lv : Int) (K : Option Addr) (nK cK : Nat) (R : Option Addr) (nR cR : Nat) (M : Option Addr) (nM cM : Nat) : Calls Try.prog 12 #[p, .int .i64 ts, .int .i64 lv, .agg #[.slice K nK cK, .slice R nR cR], .slice M nM cM] w fun e w' => e = .returned (.int .i64 2) ∧ Below w.heap.size w w' := by
  have hb := al w (.cells #[.slice K nK cK, .slice R nR cR] 26)
  have h2 := Aside0.mk (h.below hb)
  go_enter Try.func12, Try.ntmps12
  go_wp2
  go_step3
  go_wp2_with (go_at_call 30; refine h2.out.no.mono ?_; rintro e w' ⟨rfl, rfl⟩)
  rw [Exit.noGoto_ret]
  go_ret
  exact ⟨rfl, hb⟩
theorem add_no {p : Value} {w : World} (h : NoV p w) (ts : Int) (M : Option Addr) (nM cM : Nat) : Calls Try.prog 14 #[p, .int .i64 ts, .slice M nM cM] w fun e w' => e = .returned (.int .i64 2) ∧ w = w' := by
  go_enter Try.func14, Try.ntmps14
  go_wp2_with (go_at_call 30; refine h.no.mono ?_; rintro e w' ⟨rfl, rfl⟩)
  go_ret
  exact ⟨rfl, rfl⟩
theorem forget_no {p : Value} {w : World} (h : NoV p w) (ts : Int) : Calls Try.prog 23 #[p, .int .i64 ts] w fun e w' => e = .returned (.int .i64 0) ∧ w = w' := by
  go_enter Try.func23, Try.ntmps23
  go_wp2_with (go_at_call 30; refine h.no.mono ?_; rintro e w' ⟨rfl, rfl⟩)
  go_ret
  exact ⟨rfl, rfl⟩
theorem len_no {p : Value} {w : World} (h : NoV p w) : Calls Try.prog 22 #[p] w fun e w' => e = .returned (.int .i64 0) ∧ w = w' := by
  go_enter Try.func22, Try.ntmps22
  go_wp2_with (go_at_call 30; refine h.no.mono ?_; rintro e w' ⟨rfl, rfl⟩)
  go_ret
  exact ⟨rfl, rfl⟩
theorem clone_no {p : Value} {w : World} (h : NoV p w) : Calls Try.prog 28 #[p] w fun e w' => e = .returned (.pointer none) ∧ w = w' := by
  go_enter Try.func28, Try.ntmps28
  go_wp2_with (go_at_call 30; refine h.no.mono ?_; rintro e w' ⟨rfl, rfl⟩)
  go_ret
  exact ⟨rfl, rfl⟩
theorem rnew (w : World) : Calls Try.prog 24 #[] w fun e w' => e = .returned (.pointer (some ⟨w.heap.size, 0, none⟩)) ∧ w' = w.alloc (.cells #[.slice none 0 0, .int .i64 0, .int .i64 0] 77) := by
  go_enter Try.func24, Try.ntmps24
  go_wp2
  go_ret
  exact ⟨rfl, rfl⟩
theorem recent_no {p : Value} {w : World} (h : NoV p w) : Calls Try.prog 20 #[p] w fun e w' => e = .returned (.func (.func 39) #[] #[.pointer (some ⟨w.heap.size, 0, none⟩)]) ∧ w' = w.alloc (.cells #[.slice none 0 0] 59) := by
  have h2 := Aside0.mk (h.below (al w (.cells #[.slice none 0 0] 59)))
  go_enter Try.func20, Try.ntmps20
  go_wp2_with (go_at_call 30; refine h2.out.no.mono ?_; rintro e w' ⟨rfl, rfl⟩)
  go_ret
  exact ⟨rfl, rfl⟩
theorem cb {W : World} {B : Nat} {v : Value} {t : TypeId} (h : W.heap[B]? = some (.cells #[v] t (0, 0))) : W.cell? ⟨B, 0, none⟩ = some v ∧ W.frozen? ⟨B, 0, none⟩ = false := by
  constructor <;> simp [World.cell?, World.frozen?, h]
theorem cn2 (W : World) (v : Value) (t : TypeId) : (W.alloc (.cells #[v] t)).cell? ⟨W.heap.size, 0, none⟩ = some v ∧ (W.alloc (.cells #[v] t)).frozen? ⟨W.heap.size, 0, none⟩ = false := cb (World.alloc_heap_new W _)
theorem ck {W : World} {a : Addr} {v : Value} (o : Obj) (h : W.cell? a = some v) : (W.alloc o).cell? a = some v := cell_kept h (World.grownBy_alloc W o none) (fun r e => by cases e)
theorem fk {W : World} {a : Addr} {v : Value} (o : Obj) (h : W.cell? a = some v) (hf : W.frozen? a = false) : (W.alloc o).frozen? a = false := (frozen_kept h (World.grownBy_alloc W o none) (fun r e => by cases e)).trans hf
theorem css {W : World} {a : Addr} {u v : Value} (h : W.cell? a = some u) : (W.setCell a v).cell? a = some v := World.cell?_setCell_same' _ _ _ (by rw [h]; rfl)
theorem bf {w W : World} {a : Addr} {v : Value} (hb : Below w.heap.size w W) (hc : w.cell? a = some v) (hf : w.frozen? a = false) : W.frozen? a = false := by
  have := hb.block a.block (World.block_lt_of_cell? _ _ hc)
  unfold World.frozen? at *
  rw [this]
  exact hf
theorem in39 (b l : Nat) (m : Nat) (W : World) (h : W.cell? ⟨b, 0, none⟩ = some (.slice none 0 0)) : CallsIn Fence.wide m Try.prog 39 #[.func (.yield l) #[] #[], .pointer (some ⟨b, 0, none⟩)] W fun e W' => (∃ v, e = .returned v) ∧ W' = W := by
  refine callsIn_of_wp Try.func39 rfl trivial ?_ rfl
  simp only [Try.ntmps39, List.size_toArray, List.length_cons, List.length_nil, Nat.reduceAdd, Nat.reduceSub, Array.replicate_succ, Array.replicate_zero, List.push_toArray, List.append_toArray, List.nil_append, List.cons_append]
  gi_wp2
  gi_loopw [7] (fun p wr => p = .int .i64 0 ∧ wr = W) (fun _ _ => 0)
  case atStart => exact ⟨rfl, rfl⟩
  case round =>
    obtain ⟨rfl, rfl⟩ := hrel
    gi_wp2
    exact bodyPost_end (results_none rfl _ _ _) rfl ⟨⟨_, rfl⟩, rfl⟩
set_option maxRecDepth 100000 in
set_option maxHeartbeats 4000000 in
theorem in29 {p : Value} {w : World} (h : NoV p w) (g : Nat) (hg : w.cell? ⟨g, 0, none⟩ = some (.slice none 0 0)) : CallsIn Fence.wide 3 Try.prog 29 #[p, .pointer (some ⟨g, 0, none⟩)] w fun e W' => e = .returned (.bool true) ∧ Below w.heap.size w W' := by
  refine callsIn_of_wp_marks Try.func29 rfl trivial ?_ rfl
  simp only [Try.ntmps29, List.size_toArray, List.length_cons, List.length_nil, Nat.reduceAdd, Nat.reduceSub, Array.replicate_succ, Array.replicate_zero, List.push_toArray, List.append_toArray, List.nil_append, List.cons_append]
  have c0 := cn2 w (.pointer (some ⟨g, 0, none⟩)) 53
  have b1 : Below w.heap.size w (w.alloc (.cells #[.pointer (some ⟨g, 0, none⟩)] 53)) := al _ _
  obtain ⟨W1, hW1⟩ : ∃ W1, W1 = w.alloc (.cells #[.pointer (some ⟨g, 0, none⟩)] 53) := ⟨_, rfl⟩
  have s1 : W1.heap.size = w.heap.size + 1 := by rw [hW1, World.size_alloc]
  rw [← hW1] at c0 b1
  have c1 := cn2 W1 (.bool false) 4
  replace c0 := And.intro (ck (.cells #[.bool false] 4) c0.1) (fk (.cells #[.bool false] 4) c0.1 c0.2)
  have b2 := b1.alloc b1.size (.cells #[.bool false] 4)
  obtain ⟨W2, hW2⟩ : ∃ W2, W2 = W1.alloc (.cells #[.bool false] 4) := ⟨_, rfl⟩
  have s2 : W2.heap.size = w.heap.size + 1 + 1 := by rw [hW2, World.size_alloc, s1]
  rw [← hW2] at c0 c1 b2
  have c2 := cn2 W2 (.int .i64 0) 3
  replace c0 := And.intro (ck (.cells #[.int .i64 0] 3) c0.1) (fk (.cells #[.int .i64 0] 3) c0.1 c0.2)
  replace c1 := And.intro (ck (.cells #[.int .i64 0] 3) c1.1) (fk (.cells #[.int .i64 0] 3) c1.1 c1.2)
  have b3 := b2.alloc b2.size (.cells #[.int .i64 0] 3)
  obtain ⟨W3, hW3⟩ : ∃ W3, W3 = W2.alloc (.cells #[.int .i64 0] 3) := ⟨_, rfl⟩
  rw [← hW3] at c0 c1 c2 b3
  have s3 : W3.heap.size = w.heap.size + 1 + 1 + 1 := by rw [hW3, World.size_alloc, s2]
  rw [s1] at c1
  rw [s2] at c2
  have hg3 := bc b3 hg
  have hn3 := h.below b3
  have AW : Aside0 (W3 = ((w.alloc (.cells #[.pointer (some ⟨g, 0, none⟩)] 53)).alloc (.cells #[.bool false] 4)).alloc (.cells #[.int .i64 0] 3)) := Aside0.mk (by rw [hW3, hW2, hW1])
  clear hW1 hW2 hW3 s1 s2
  have AN : Aside0 (NoV p (((w.alloc (.cells #[.pointer (some ⟨g, 0, none⟩)] 53)).alloc (.cells #[.bool false] 4)).alloc (.cells #[.int .i64 0] 3))) := Aside0.mk (AW.out ▸ hn3)
  gi_wp2_with (refine ⟨trivial, ?_⟩; gi_at_call 20; refine (callsIn_wide.2 (recent_no AN.out)).mono ?_; rintro e W4 ⟨rfl, rfl⟩)
  rw [← AW.out]
  have c4 := cn2 W3 (.slice none 0 0) 59
  rw [s3] at c4
  obtain ⟨W4, hW4⟩ : ∃ W4, W4 = W3.alloc (.cells #[.slice none 0 0] 59) := ⟨_, rfl⟩
  have hB4 : Below W3.heap.size W3 W4 := by rw [hW4]; exact al _ _
  rw [← hW4] at c4 ⊢
  refine rf_none (by omega) (gf := 39) (lb := #[.pointer (some ⟨w.heap.size + 1 + 1 + 1, 0, none⟩)]) rfl (enters_of Try.func39 (by kernel_rfl) rfl) (fun l W hW => in39 (w.heap.size + 1 + 1 + 1) l _ W (bc hW c4.1)) ?_
  intro D W hD hW hK
  have d0 := bc hW (bc hB4 c0.1)
  have d1 := bc hW (bc hB4 c1.1)
  have y1 := bf hW (bc hB4 c1.1) (bf hB4 c1.1 c1.2)
  have d2 := bc hW (bc hB4 c2.1)
  have dg := bc hW (bc hB4 hg3)
  have A9 := Aside0.mk ((hn3.below hB4).below hW)
  have hBW : Below w.heap.size w W := b3.trans ((hB4.mono b3.size).trans (hW.mono (Nat.le_trans b3.size hB4.size)))
  have hDw : w.heap.size ≤ D := Nat.le_trans (Nat.le_trans b3.size hB4.size) hD
  have AD : Aside0 (NoV p W.drew) := Aside0.mk (A9.out.below (below_drew (Below.refl _ _)))
  clear hW c0 c1 c2 AN hn3
  gi_wp2
  rename_i K hK2
  refine wpIn_mono (Q := fun e a w => match e with | .panic _ => False | .normal => K a w | _ => False) ?_ ?_
  rotate_left
  · rintro e a w0 h0
    cases e with
    | normal => exact h0
    | _ => exact h0.elim
  gi_region_with (refine ⟨trivial, ?_⟩; gi_at_call 22; refine (callsIn_wide.2 (len_no AD.out)).mono ?_; rintro e w' ⟨rfl, rfl⟩)
  all_goals
    refine hK2 _ _ ?_
    gi_wp2
    have hK' : (W.setCell ⟨w.heap.size + 1, 0, none⟩ (.bool true)).drew.heap[D]? = some (.deferred (some [])) := (KeepsOthers.setCell W ⟨w.heap.size + 1, 0, none⟩ (.bool true)).same D _ hK rfl
    refine ⟨by simp, .inl ⟨_, _, rfl, run_takeDeferred hK', ?_⟩⟩
    have hcs : (W.setCell ⟨w.heap.size + 1, 0, none⟩ (.bool true)).drew.cell? ⟨w.heap.size + 1, 0, none⟩ = some (.bool true) := css d1
    have hc5 := cell_kept hcs (grownBy_putObj' _ D (.deferred none)) (fun r e => by cases e; exact ⟨_, hK', rfl⟩)
    refine ⟨.bool true, ?_, rfl, (below_drew (hBW.setCell (p := ⟨w.heap.size + 1, 0, none⟩) (show w.heap.size ≤ w.heap.size + 1 by omega) _)).trans (belowK_b (w := w) (Nat.le_refl _) _ D _ _ (by omega) hK' rfl rfl)⟩
    simp [results, Try.f29, go_sem, hc5]
set_option maxRecDepth 100000 in
set_option maxHeartbeats 8000000 in
theorem validNone_calls (w : World) (kd ts lv : Int) (K : Option Addr) (nK cK : Nat) (R : Option Addr) (nR cR : Nat) (M : Option Addr) (nM cM : Nat) : Calls Try.prog 9 #[.agg #[.int .i64 kd, .int .i64 ts, .int .i64 lv, .slice K nK cK, .slice R nR cR, .slice M nM cM]] w fun e w' => e = .returned (.bool true) ∧ Below w.heap.size w w' := by
  go_enter Try.func9, Try.ntmps9
  go_wp2_with (go_at_call 11; refine (live_calls _).mono ?_; rintro e w1 ⟨rfl, hB1⟩)
  have hh := World.alloc_heap_new w (.cells #[.int .i64 kd, .int .i64 ts, .int .i64 lv, .slice K nK cK, .slice R nR cR, .slice M nM cM] 28)
  obtain ⟨W0, hW0⟩ : ∃ W0, W0 = w.alloc (.cells #[.int .i64 kd, .int .i64 ts, .int .i64 lv, .slice K nK cK, .slice R nR cR, .slice M nM cM] 28) := ⟨_, rfl⟩
  have hB0 : Below w.heap.size w W0 := by rw [hW0]; exact al _ _
  rw [← hW0] at hB1 hh
  have k1 : W0.cell? ⟨w.heap.size, 1, none⟩ = some (.int .i64 ts) := by simp only [World.cell?, hh]; rfl
  have k2 : W0.cell? ⟨w.heap.size, 2, none⟩ = some (.int .i64 lv) := by simp only [World.cell?, hh]; rfl
  have k3 : W0.cell? ⟨w.heap.size, 3, none⟩ = some (.slice K nK cK) := by simp only [World.cell?, hh]; rfl
  have k4 : W0.cell? ⟨w.heap.size, 4, none⟩ = some (.slice R nR cR) := by simp only [World.cell?, hh]; rfl
  have k5 : W0.cell? ⟨w.heap.size, 5, none⟩ = some (.slice M nM cM) := by simp only [World.cell?, hh]; rfl
  have hBw : Below w.heap.size w w1 := hB0.trans (hB1.mono hB0.size)
  have g1 := World.alloc_heap_new w1 (.cells #[.bool false, .slice none 0 0, .int .i64 0, .int .i64 0] 61)
  obtain ⟨W1, hW1⟩ : ∃ W1, W1 = w1.alloc (.cells #[.bool false, .slice none 0 0, .int .i64 0, .int .i64 0] 61) := ⟨_, rfl⟩
  rw [← hW1] at g1
  have m3 : W1.cell? ⟨w1.heap.size, 0, none⟩ = some (.bool false) := by simp only [World.cell?, g1]; rfl
  have s1 : W1.heap.size = w1.heap.size + 1 := by rw [hW1, World.size_alloc]
  have hb1 : Below w1.heap.size w1 W1 := by rw [hW1]; exact al _ _
  have g2 := World.alloc_heap_new W1 (.cells #[.pointer none, .pointer (some ⟨w1.heap.size, 0, none⟩)] 30)
  obtain ⟨W2, hW2⟩ : ∃ W2, W2 = W1.alloc (.cells #[.pointer none, .pointer (some ⟨w1.heap.size, 0, none⟩)] 30) := ⟨_, rfl⟩
  rw [← hW2] at g2
  have l0 : W2.cell? ⟨W1.heap.size, 0, none⟩ = some (.pointer none) := by simp only [World.cell?, g2]; rfl
  have l1 : W2.cell? ⟨W1.heap.size, 1, none⟩ = some (.pointer (some ⟨w1.heap.size, 0, none⟩)) := by simp only [World.cell?, g2]; rfl
  have hb2 : Below W1.heap.size W1 W2 := by rw [hW2]; exact al _ _
  replace m3 := bc hb2 m3
  replace k1 := bc hb2 (bc hb1 (bc hB1 k1))
  replace k2 := bc hb2 (bc hb1 (bc hB1 k2))
  replace k3 := bc hb2 (bc hb1 (bc hB1 k3))
  replace k4 := bc hb2 (bc hb1 (bc hB1 k4))
  replace k5 := bc hb2 (bc hb1 (bc hB1 k5))
  rw [s1] at l0 l1
  have hBW : Below w.heap.size w W2 := hBw.trans ((hb1.mono hBw.size).trans (hb2.mono (Nat.le_trans hBw.size hb1.size)))
  rw [hW1] at hW2
  rw [← hW2]
  clear g1 g2 hW1 hW2 hb1 hb2 s1 hBw hh hW0 hB0 hB1
  generalize w1.heap.size = d at *
  go_loopw [11] (fun p wr => ∃ i : Int, p = .int .i64 i ∧ (i = 0 ∨ i = 1 ∨ i = 2) ∧ Below W2.heap.size W2 wr) (fun p wr => 2 - (intOf p).toNat)
  case atStart => exact ⟨0, rfl, .inl rfl, Below.refl _ _⟩
  case round =>
    obtain ⟨i, rfl, hi, hBr⟩ := hrel
    replace k1 := bc hBr k1
    replace k2 := bc hBr k2
    replace k3 := bc hBr k3
    replace k4 := bc hBr k4
    replace k5 := bc hBr k5
    replace l0 := bc hBr l0
    replace l1 := bc hBr l1
    replace m3 := bc hBr m3
    rcases hi with rfl | rfl | rfl
    · have A1 : Aside0 (NoV (.pointer none) wr) := Aside0.mk (.inl rfl)
      go_wp2_with (first
        | (go_at_call 12; refine (check_no A1.out _ _ _ _ _ _ _ _ _ _ _).mono ?_; rintro e w2 ⟨rfl, hB2⟩; have A2 := Aside0.mk (A1.out.below hB2); have k1b := bc hB2 k1; have k5b := bc hB2 k5)
        | (go_at_call 14; refine (add_no A2.out _ _ _ _).mono ?_; rintro e w' ⟨rfl, rfl⟩)
        | (go_at_call 23; refine (forget_no A2.out _).mono ?_; rintro e w' ⟨rfl, rfl⟩)
        | (go_at_call 24; refine (rnew _).mono ?_; rintro e w3 ⟨rfl, hw3⟩; have hq3 : NoV _ w3 ∧ w3.cell? ⟨w2.heap.size, 0, none⟩ = some (.slice none 0 0) ∧ Below w2.heap.size w2 w3 := ⟨by rw [hw3]; exact A2.out.below (al _ _), by rw [hw3]; simp only [World.cell?, World.alloc_heap_new]; rfl, by rw [hw3]; exact al _ _⟩; clear hw3; have A3 := Aside0.mk hq3)
        | (go_at_call 29; refine (callsIn_wide.1 (in29 A3.out.1 _ A3.out.2.1)).mono ?_; rintro e w4 ⟨rfl, hB4q⟩; have hB4 : Below wr.heap.size wr w4 := hB2.trans ((A3.out.2.2.mono hB2.size).trans (hB4q.mono (Nat.le_trans hB2.size A3.out.2.2.size))); have A4 := Aside0.mk (A3.out.1.below hB4q))
        | (go_at_call 28; refine (clone_no A4.out).mono ?_; rintro e w' ⟨rfl, rfl⟩))
      go_roundw
      case rel => exact ⟨1, rfl, .inr (.inl rfl), hBr.trans (hB4.mono hBr.size)⟩
      case measure => decide
    · have A1 : Aside0 (NoV (.pointer (some ⟨d, 0, none⟩)) wr) := Aside0.mk (.inr ⟨d, rfl, m3⟩)
      go_wp2_with (first
        | (go_at_call 12; refine (check_no A1.out _ _ _ _ _ _ _ _ _ _ _).mono ?_; rintro e w2 ⟨rfl, hB2⟩; have A2 := Aside0.mk (A1.out.below hB2); have k1b := bc hB2 k1; have k5b := bc hB2 k5)
        | (go_at_call 14; refine (add_no A2.out _ _ _ _).mono ?_; rintro e w' ⟨rfl, rfl⟩)
        | (go_at_call 23; refine (forget_no A2.out _).mono ?_; rintro e w' ⟨rfl, rfl⟩)
        | (go_at_call 24; refine (rnew _).mono ?_; rintro e w3 ⟨rfl, hw3⟩; have hq3 : NoV _ w3 ∧ w3.cell? ⟨w2.heap.size, 0, none⟩ = some (.slice none 0 0) ∧ Below w2.heap.size w2 w3 := ⟨by rw [hw3]; exact A2.out.below (al _ _), by rw [hw3]; simp only [World.cell?, World.alloc_heap_new]; rfl, by rw [hw3]; exact al _ _⟩; clear hw3; have A3 := Aside0.mk hq3)
        | (go_at_call 29; refine (callsIn_wide.1 (in29 A3.out.1 _ A3.out.2.1)).mono ?_; rintro e w4 ⟨rfl, hB4q⟩; have hB4 : Below wr.heap.size wr w4 := hB2.trans ((A3.out.2.2.mono hB2.size).trans (hB4q.mono (Nat.le_trans hB2.size A3.out.2.2.size))); have A4 := Aside0.mk (A3.out.1.below hB4q))
        | (go_at_call 28; refine (clone_no A4.out).mono ?_; rintro e w' ⟨rfl, rfl⟩))
      go_roundw
      case rel => exact ⟨2, rfl, .inr (.inr rfl), hBr.trans (hB4.mono hBr.size)⟩
      case measure => decide
    · go_wp2
      go_ret
      exact ⟨rfl, hBW.trans (hBr.mono hBW.size)⟩
end Go.Proofs.Ytgbmlkoblcfceaa.Vn

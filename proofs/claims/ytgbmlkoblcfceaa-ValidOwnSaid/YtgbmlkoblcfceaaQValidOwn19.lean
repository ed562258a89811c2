/-
Of the row ValidOwn: printed walks and plain laws, merged (wip/claim2.py).
-/
import Derived.Test.YtgbmlkoblcfceaaQValidOwn15
import Derived.RangeFuncNested
import Derived.RangeFuncBound
import Derived.RangeFuncCalls
import Derived.RangeFuncLeaves
import Derived.RangeFuncMany
import Derived.RangeFuncFrom
import Derived.Shelf.Abstract
import Derived.Shelf.RegionOpen
import Derived.WalkKit
import Derived.OwnWalkIn
import Derived.TacticsInMore
import Derived.LoopNIn
import Derived.LoopIn
import Derived.Deep.Heap
import Derived.WalkMore
import Derived.Stop.RegionWithIn
set_option linter.unusedVariables false
set_option linter.unusedSimpArgs false
namespace Go.Proofs.YtgbmlkoblcfceaaW.Hp
open Go.RowKit Go.Shelf Go.Proofs.YtgbmlkoblcfceaaW.PrintWords Go.Proofs.YtgbmlkoblcfceaaW.PrintMore
open Asn
section
variable {w0 w w' W : World} {L L' : List (Nat × Asn)} {i j m p q : Nat} {A B A' : Asn}
theorem Hp.put_obj {b : Nat} {o : Obj} (H : Hp w0 w L) (p : Nat) (hi : L[p]? = some (i, Asn.obj b o)) (hn : lone i L p = true) (o' : Obj) : Hp w0 (w.putObj b o') (L.set p (i, Asn.obj b o')) := by
  obtain ⟨lab, hall⟩ := H.all
  have hb := (hall.get hi).1
  have hlt : b < w.heap.size := (Array.getElem?_eq_some_iff.1 hb).1
  have hg := grownBy_putObj' w b o'
  refine H.upd p hi hn hg.os hg.tape hg.output hg.size (fun S h => ⟨⟨World.putObj_heap_same hlt, .inl h.2⟩, fun k hk hS => World.putObj_heap_other (fun e => hS (by rw [e]; exact h.2))⟩)
theorem Hp.share (H : Hp w0 w L) {lab : Nat → Nat} (hall : All w lab L) (i : Nat) {X : Asn} (hb : Below w.heap.size w w') (hX : X.P w' (fun k => lab k = i ∨ w.heap.size ≤ k)) : Hp w0 w' (L ++ [(i, X)]) := by
  refine ⟨hb.os.trans H.os, hb.tape.trans H.tape, hb.output.trans H.output, Nat.le_trans H.size hb.size, fun k => if k < w.heap.size then lab k else i, All.snoc (hall.same hb.block (fun k hk => if_pos hk) hb.size) (X.mono hX ?_)⟩
  intro k _ hk2
  show (if k < w.heap.size then lab k else i) = i
  by_cases hlt : k < w.heap.size
  · rw [if_pos hlt]
    exact hk2.elim id (fun h => by omega)
  · rw [if_neg hlt]
theorem Hp.obj_at {b : Nat} {o : Obj} (H : Hp w0 w L) (p : Nat) (hi : L[p]? = some (i, Asn.obj b o)) : w.heap[b]? = some o := H.fact p hi (fun _ h => h.1)
end
def roundEnd (l : Nat) (rec : LoopState → Option Code → Loop) (R : Ending → World → Prop) : Exit → Act → World → Prop
  | .normal, _, W3 => W3.heap[l]? = some (.loop { rec .ready none with state := .busy }) ∧ R (.returned (.bool true)) (W3.putObj l (.loop (rec .ready none)))
  | .ret, _, W3 => W3.heap[l]? = some (.loop { rec .ready none with state := .busy }) ∧ R (.returned (.bool false)) (W3.putObj l (.loop (rec .done (some .ret))))
  | .exit id, _, W3 => W3.heap[l]? = some (.loop { rec .ready none with state := .busy }) ∧ R (.returned (.bool false)) (W3.putObj l (.loop (rec .done (some (.exit id)))))
  | .goto t, _, W3 => W3.heap[l]? = some (.loop { rec .ready none with state := .busy }) ∧ R (.returned (.bool false)) (W3.putObj l (.loop (rec .done (some (.goto t)))))
  | .panic _, _, _ => False
  | .outgrown, _, _ => False
theorem rf_walk {P : Program} {n : Nat} {g : Operand} {ps : Array Tmp} {assign body : Code} {Q : Exit → Act → World → Prop} {a : Act} {w : World}
    (h1 : 1 ≤ n) {gf : Nat} {lb : Array Value} (hg : a.eval g = .func (.func gf) #[] lb) (eg : ∀ args w, (callFunc gf args).run P w = .ok (.enter gf args) w)
    (hcall : ∀ (rec : LoopState → Option Code → Loop),
      (∀ (xs : Array Value) (W : World) (R : Ending → World → Prop) (a₁ : Act), xs.size = ps.size → W.heap[w.heap.size + 1]? = some (.loop (rec .ready none)) →
        (∀ (K : Act → World → Prop), K a₁ W → assign.wpIn (Fence.wide.inRound (w.heap.size + 1)) (n - 1 - 1) P (Exit.then K (fun _ _ _ => False)) { tmps := (ps.zip xs).foldl (fun t (p, v) => t.setIfInBounds p v) a.tmps, defers := [] } W) →
        body.wpIn (Fence.wide.inRound (w.heap.size + 1)) (n - 1 - 1) P (roundEnd (w.heap.size + 1) rec R) a₁ (W.putObj (w.heap.size + 1) (.loop { rec .ready none with state := .busy })) →
        YieldAt Fence.wide (n - 1 - 1) P (w.heap.size + 1) xs W R) →
      CallsIn Fence.wide (n - 1) P gf (#[.func (.yield (w.heap.size + 1)) #[] #[]] ++ lb) ((w.alloc (.deferred (some []))).alloc (.loop (rec .ready none))) fun e W2 => (∃ v, e = .returned v) ∧
        ((W2.heap[w.heap.size + 1]? = some (.loop (rec .ready none)) ∧ ∀ o', Q .normal { a with defers := { target := .collected w.heap.size, args := #[] } :: a.defers } (W2.putObj (w.heap.size + 1) o')) ∨
          ∃ c, W2.heap[w.heap.size + 1]? = some (.loop (rec .done (some c))) ∧ ∀ o', c.wpIn Fence.wide n P Q { a with defers := { target := .collected w.heap.size, args := #[] } :: a.defers } (W2.putObj (w.heap.size + 1) o'))) :
    (Code.rangeFunc g ps assign body).wpIn Fence.wide n P Q a w := by
  refine wpIn_rangeFunc ?_
  intro fn hfn
  rw [show Fence.wide.round = none from rfl]
  obtain ⟨rec, hrec⟩ : ∃ rec : LoopState → Option Code → Loop, rec = fun st pe => { state := st, pending := pe, fn, tmps := a.tmps, params := ps, assign, body, defers := w.heap.size } := ⟨_, rfl⟩
  refine ⟨w.heap.size + 1, [{ target := .collected w.heap.size, args := #[] }], (w.alloc (.deferred (some []))).alloc (.loop (rec .ready none)), { target := .fn (.func gf) lb, args := #[.func (.yield (w.heap.size + 1)) #[] #[]] }, (w.alloc (.deferred (some []))).alloc (.loop (rec .ready none)), gf,
    #[.func (.yield (w.heap.size + 1)) #[] #[]] ++ lb, (w.alloc (.deferred (some []))).alloc (.loop (rec .ready none)), ?_, ?_, ?_, ?_, fun _ => h1, ?_⟩
  · rw [hrec]; exact run_enterLoop_outer _ _ _ _ _
  · simp only [resolve, hg]
    simp [go_sem]
  · intro f' hf'; trivial
  · simp [invoke, go_sem, eg]
  · refine (hcall rec ?_).mono ?_
    · intro xs W R a₁ hxs hl hassign hbody
      have hy := run_yield (P := P) (args := xs) hl (by rw [hrec]; exact hxs)
      rw [hrec] at hy
      refine ⟨fn, _, assign, body, hy, roundIn_of_wpIn hfn (hassign _ ⟨_, run_beginRound hl (by rw [hrec]), ?_⟩)⟩
      refine wpIn_mono hbody ?_
      rintro e a3 W3 hp
      cases e with
      | normal =>
        have := run_endRound (P := P) none hp.1
        rw [hrec] at this
        exact ⟨_, _, this, by have h2 := hp.2; rw [hrec] at h2; exact h2⟩
      | ret =>
        have := run_endRound (P := P) (some .ret) hp.1
        rw [hrec] at this
        exact ⟨_, _, this, by have h2 := hp.2; rw [hrec] at h2; exact h2⟩
      | exit id =>
        have := run_endRound (P := P) (some (.exit id)) hp.1
        rw [hrec] at this
        exact ⟨_, _, this, by have h2 := hp.2; rw [hrec] at h2; exact h2⟩
      | goto t =>
        have := run_endRound (P := P) (some (.goto t)) hp.1
        rw [hrec] at this
        exact ⟨_, _, this, by have h2 := hp.2; rw [hrec] at h2; exact h2⟩
      | panic ch => exact hp.elim
      | outgrown => exact hp.elim
    · rintro e W2 ⟨⟨v, rfl⟩, (⟨hl, hq⟩ | ⟨c, hl, hq⟩)⟩
      · exact ⟨none, _, by have := run_endLoop (P := P) hl (by rw [hrec]; simp); rw [hrec] at this; exact this, hq _⟩
      · exact ⟨some c, _, by have := run_endLoop (P := P) hl (by rw [hrec]; simp); rw [hrec] at this; exact this, hq _⟩
end Go.Proofs.YtgbmlkoblcfceaaW.Hp

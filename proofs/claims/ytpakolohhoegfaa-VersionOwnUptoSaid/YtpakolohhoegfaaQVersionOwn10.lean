/-
Of the row VersionOwn: printed walks and plain laws, merged (wip/claim2.py).
-/
import Derived.Test.YtpakolohhoegfaaQVersionOwn7
import Derived.RangeFuncNested
import Derived.RangeFuncBound
import Derived.RangeFuncCalls
import Derived.RangeFuncLeaves
import Derived.RangeFuncMany
import Derived.RangeFuncFrom
import Derived.Shelf.Abstract
import Derived.Shelf.RegionOpen
import Derived.WalkKit
import Derived.OwnWalkIn
import Derived.TacticsInMore
import Derived.LoopNIn
import Derived.LoopIn
import Derived.Deep.Heap
import Derived.WalkMore
import Derived.Stop.RegionWithIn
import Derived.Deep.QuietTactic
import Derived.BigQuiet
set_option linter.unusedVariables false
set_option linter.unusedSimpArgs false
namespace Go.Proofs.YtpakolohhoegfaaW.Hp
open Go.RowKit Go.Shelf Go.Proofs.YtpakolohhoegfaaW.PrintWords Go.Proofs.YtpakolohhoegfaaW.PrintMore
open Asn

section
variable {w0 w w' W : World} {L L' : List (Nat × Asn)} {i j m p q : Nat} {A B A' : Asn}
theorem Hp.put_obj {b : Nat} {o : Obj} (H : Hp w0 w L) (p : Nat) (hi : L[p]? = some (i, Asn.obj b o)) (hn : lone i L p = true) (o' : Obj) : Hp w0 (w.putObj b o') (L.set p (i, Asn.obj b o')) := by
  obtain ⟨lab, hall⟩ := H.all
  have hb := (hall.get hi).1
  have hlt : b < w.heap.size := (Array.getElem?_eq_some_iff.1 hb).1
  have hg := grownBy_putObj' w b o'
  refine H.upd p hi hn hg.os hg.tape hg.output hg.size (fun S h => ⟨⟨World.putObj_heap_same hlt, .inl h.2⟩, fun k hk hS => World.putObj_heap_other (fun e => hS (by rw [e]; exact h.2))⟩)
theorem Hp.obj_at {b : Nat} {o : Obj} (H : Hp w0 w L) (p : Nat) (hi : L[p]? = some (i, Asn.obj b o)) : w.heap[b]? = some o := H.fact p hi (fun _ h => h.1)
end
def roundEnd (l : Nat) (rec : LoopState → Option Code → Loop) (R : Ending → World → Prop) : Exit → Act → World → Prop
  | .normal, _, W3 => W3.heap[l]? = some (.loop { rec .ready none with state := .busy }) ∧ R (.returned (.bool true)) (W3.putObj l (.loop (rec .ready none)))
  | .ret, _, W3 => W3.heap[l]? = some (.loop { rec .ready none with state := .busy }) ∧ R (.returned (.bool false)) (W3.putObj l (.loop (rec .done (some .ret))))
  | .exit id, _, W3 => W3.heap[l]? = some (.loop { rec .ready none with state := .busy }) ∧ R (.returned (.bool false)) (W3.putObj l (.loop (rec .done (some (.exit id)))))
  | .goto t, _, W3 => W3.heap[l]? = some (.loop { rec .ready none with state := .busy }) ∧ R (.returned (.bool false)) (W3.putObj l (.loop (rec .done (some (.goto t)))))
  | .panic _, _, _ => False
  | .outgrown, _, _ => False
theorem rf_walk {P : Program} {n : Nat} {g : Operand} {ps : Array Tmp} {assign body : Code} {Q : Exit → Act → World → Prop} {a : Act} {w : World}
    (h1 : 1 ≤ n) {gf : Nat} {lb : Array Value} (hg : a.eval g = .func (.func gf) #[] lb) (eg : ∀ args w, (callFunc gf args).run P w = .ok (.enter gf args) w)
    (hcall : ∀ (rec : LoopState → Option Code → Loop),
      (∀ (xs : Array Value) (W : World) (R : Ending → World → Prop) (a₁ : Act), xs.size = ps.size → W.heap[w.heap.size + 1]? = some (.loop (rec .ready none)) →
        (∀ (K : Act → World → Prop), K a₁ W → assign.wpIn (Fence.wide.inRound (w.heap.size + 1)) (n - 1 - 1) P (Exit.then K (fun _ _ _ => False)) { tmps := (ps.zip xs).foldl (fun t (p, v) => t.setIfInBounds p v) a.tmps, defers := [] } W) →
        body.wpIn (Fence.wide.inRound (w.heap.size + 1)) (n - 1 - 1) P (roundEnd (w.heap.size + 1) rec R) a₁ (W.putObj (w.heap.size + 1) (.loop { rec .ready none with state := .busy })) →
        YieldAt Fence.wide (n - 1 - 1) P (w.heap.size + 1) xs W R) →
      CallsIn Fence.wide (n - 1) P gf (#[.func (.yield (w.heap.size + 1)) #[] #[]] ++ lb) ((w.alloc (.deferred (some []))).alloc (.loop (rec .ready none))) fun e W2 => (∃ v, e = .returned v) ∧
        ((W2.heap[w.heap.size + 1]? = some (.loop (rec .ready none)) ∧ ∀ o', Q .normal { a with defers := { target := .collected w.heap.size, args := #[] } :: a.defers } (W2.putObj (w.heap.size + 1) o')) ∨
          ∃ c, W2.heap[w.heap.size + 1]? = some (.loop (rec .done (some c))) ∧ ∀ o', c.wpIn Fence.wide n P Q { a with defers := { target := .collected w.heap.size, args := #[] } :: a.defers } (W2.putObj (w.heap.size + 1) o'))) :
    (Code.rangeFunc g ps assign body).wpIn Fence.wide n P Q a w := by
  refine wpIn_rangeFunc ?_
  intro fn hfn
  rw [show Fence.wide.round = none from rfl]
  obtain ⟨rec, hrec⟩ : ∃ rec : LoopState → Option Code → Loop, rec = fun st pe => { state := st, pending := pe, fn, tmps := a.tmps, params := ps, assign, body, defers := w.heap.size } := ⟨_, rfl⟩
  refine ⟨w.heap.size + 1, [{ target := .collected w.heap.size, args := #[] }], (w.alloc (.deferred (some []))).alloc (.loop (rec .ready none)), { target := .fn (.func gf) lb, args := #[.func (.yield (w.heap.size + 1)) #[] #[]] }, (w.alloc (.deferred (some []))).alloc (.loop (rec .ready none)), gf,
    #[.func (.yield (w.heap.size + 1)) #[] #[]] ++ lb, (w.alloc (.deferred (some []))).alloc (.loop (rec .ready none)), ?_, ?_, ?_, ?_, fun _ => h1, ?_⟩
  · rw [hrec]; exact run_enterLoop_outer _ _ _ _ _
  · simp only [resolve, hg]
    simp [go_sem]
  · intro f' hf'; trivial
  · simp [invoke, go_sem, eg]
  · refine (hcall rec ?_).mono ?_
    · intro xs W R a₁ hxs hl hassign hbody
      have hy := run_yield (P := P) (args := xs) hl (by rw [hrec]; exact hxs)
      rw [hrec] at hy
      refine ⟨fn, _, assign, body, hy, roundIn_of_wpIn hfn (hassign _ ⟨_, run_beginRound hl (by rw [hrec]), ?_⟩)⟩
      refine wpIn_mono hbody ?_
      rintro e a3 W3 hp
      cases e with
      | normal =>
        have := run_endRound (P := P) none hp.1
        rw [hrec] at this
        exact ⟨_, _, this, by have h2 := hp.2; rw [hrec] at h2; exact h2⟩
      | ret =>
        have := run_endRound (P := P) (some .ret) hp.1
        rw [hrec] at this
        exact ⟨_, _, this, by have h2 := hp.2; rw [hrec] at h2; exact h2⟩
      | exit id =>
        have := run_endRound (P := P) (some (.exit id)) hp.1
        rw [hrec] at this
        exact ⟨_, _, this, by have h2 := hp.2; rw [hrec] at h2; exact h2⟩
      | goto t =>
        have := run_endRound (P := P) (some (.goto t)) hp.1
        rw [hrec] at this
        exact ⟨_, _, this, by have h2 := hp.2; rw [hrec] at h2; exact h2⟩
      | panic ch => exact hp.elim
      | outgrown => exact hp.elim
    · rintro e W2 ⟨⟨v, rfl⟩, (⟨hl, hq⟩ | ⟨c, hl, hq⟩)⟩
      · exact ⟨none, _, by have := run_endLoop (P := P) hl (by rw [hrec]; simp); rw [hrec] at this; exact this, hq _⟩
      · exact ⟨some c, _, by have := run_endLoop (P := P) hl (by rw [hrec]; simp); rw [hrec] at this; exact this, hq _⟩
end Go.Proofs.YtpakolohhoegfaaW.Hp

set_option linter.unusedVariables false
set_option linter.unusedSimpArgs false
namespace Go.Proofs.YtpakolohhoegfaaW.Hp
open Go.RowKit Go.Shelf Go.Proofs.YtpakolohhoegfaaW.PrintWords Go.Proofs.YtpakolohhoegfaaW.PrintLast Go.Proofs.YtpakolohhoegfaaW.PrintMore

section
variable {P : Program} {ops : Array Oper} {Q : Exit → Act → World → Prop} {l n : Nat}
theorem op_round {o : Oper} {a : Act} {w : World} {K : Act → World → Prop} (hnd : ∀ c, o.op ≠ .defer c) (h : o.wp P a w K Q) : o.wpIn (Fence.wide.inRound l) n P a w K Q := by
  refine ⟨fun _ _ => trivial, ?_⟩
  rw [Oper.semAt_eq _ _ _ hnd]
  unfold Oper.wp at h
  generalize (execOp a.eval o).run P w = r at h ⊢
  cases r with
  | ok x w' =>
    cases x <;> simp only [Oper.upon, Oper.uponIn] at h ⊢ <;>
      first
        | exact h
        | exact h.elim
        | exact ⟨(fun h0 => by cases h0), CallsIn.inRound l (callsIn_wide.2 h)⟩
        | exact ⟨(fun h0 => by cases h0), fun c cs _ => let ⟨v, w', r, s⟩ := h c cs; ⟨v, w', r, stepsIn_wide.2 s⟩⟩
  | halt x w' => cases x <;> simp only [Oper.upon, Oper.uponIn] at h ⊢ <;> exact h
def noDefer (ops : Array Oper) : Bool := ops.all (fun o => match o.op with | .defer _ => false | _ => true)
theorem noDefer_spec (h : noDefer ops = true) : ∀ (i : Nat) (o : Oper), ops[i]? = some o → ∀ c, o.op ≠ .defer c := by
  intro i o ho c hc
  unfold noDefer at h
  rw [Array.all_eq_true] at h
  obtain ⟨hi, rfl⟩ := Array.getElem?_eq_some_iff.1 ho
  have := h i hi
  rw [hc] at this
  cases this
end
end Go.Proofs.YtpakolohhoegfaaW.Hp

set_option linter.unusedVariables false
set_option linter.unusedSimpArgs false
namespace Go.Proofs.YtpakolohhoegfaaW.Hp
open Go.RowKit Go.Shelf Go.Proofs.YtpakolohhoegfaaW.PrintWords Go.Proofs.YtpakolohhoegfaaW.PrintMore

def nrm (Q : Exit → Act → World → Prop) : Exit → Act → World → Prop
  | .normal, a, w => Q .normal a w
  | _, _, _ => False
theorem nrm_out {Q : Exit → Act → World → Prop} : ¬ LetsOut (nrm Q) := by rintro ⟨a, w, h⟩; exact h
theorem list_round {P : Program} {ops : Array Oper} {l n : Nat} {Q : Exit → Act → World → Prop} (hout : ¬ LetsOut Q) : ∀ (rest : List Oper), (∀ o ∈ rest, ∀ c, o.op ≠ .defer c) → ∀ (a : Act) (w : World), wpList P ops Q rest a w → wpListIn (Fence.wide.inRound l) n P ops Q rest a w
  | [], _, _, _, h => h
  | o :: rest, hnd, a, w, h => by
    unfold wpList at h
    unfold wpListIn
    split
    · rename_i hw
      rw [if_pos hw] at h
      rcases h with h | h
      · exact op_round (hnd o (List.mem_cons_self ..)) (Oper.wp_mono (fun a w h => list_round hout rest (fun o ho => hnd o (List.mem_cons_of_mem _ ho)) a w h) h)
      · exact absurd h.2 hout
    · rename_i hw
      rw [if_neg hw] at h
      exact ⟨fun _ _ => trivial, list_round hout rest (fun o ho => hnd o (List.mem_cons_of_mem _ ho)) _ w h⟩
theorem region_round {P : Program} {id l m : Nat} {Q : Exit → Act → World → Prop} {a : Act} {w : World} {ops : List Oper} (hnd : noDefer ops.toArray = true) (h : wpList P ops.toArray (nrm Q) ops a w) : (Code.region id ops.toArray false).wpIn (Fence.wide.inRound l) m P Q a w := by
  refine wpIn_mono (Q := nrm Q) ?_ ?_
  rotate_left
  · rintro e a w0 h0
    cases e with
    | normal => exact h0
    | _ => exact h0.elim
  · refine wpIn_region_lit (list_round nrm_out _ ?_ _ _ h)
    intro o ho c
    obtain ⟨i, hi⟩ := List.getElem?_of_mem ho
    exact noDefer_spec hnd i o (by simpa using hi) c
end Go.Proofs.YtpakolohhoegfaaW.Hp

/-
Of the row ImageBack: printed walks and plain laws, merged (wip/claim2.py).
-/
import Derived.Test.YtkflgkmblebdmaaQImageBack13
import Derived.RangeFuncNested
import Derived.RangeFuncBound
import Derived.RangeFuncCalls
import Derived.RangeFuncLeaves
import Derived.RangeFuncMany
import Derived.RangeFuncFrom
import Derived.Shelf.Abstract
import Derived.Shelf.RegionOpen
import Derived.WalkKit
import Derived.OwnWalkIn
import Derived.TacticsInMore
import Derived.LoopNIn
import Derived.LoopIn
import Derived.Deep.Heap
import Derived.WalkMore
import Derived.Stop.RegionWithIn
import Derived.Deep.QuietTactic
import Derived.BigQuiet
set_option linter.unusedVariables false
set_option linter.unusedSimpArgs false
namespace Go.Proofs.YtkflgkmblebdmaaW.Hp
open Go.RowKit Go.Shelf Go.Proofs.YtkflgkmblebdmaaW.PrintWords Go.Proofs.YtkflgkmblebdmaaW.PrintMore
open Asn
section
variable {w0 w w' W : World} {L L' : List (Nat × Asn)} {i j m p q : Nat} {A B A' : Asn}
theorem Hp.put_obj {b : Nat} {o : Obj} (H : Hp w0 w L) (p : Nat) (hi : L[p]? = some (i, Asn.obj b o)) (hn : lone i L p = true) (o' : Obj) : Hp w0 (w.putObj b o') (L.set p (i, Asn.obj b o')) := by
  obtain ⟨lab, hall⟩ := H.all
  have hb := (hall.get hi).1
  have hlt : b < w.heap.size := (Array.getElem?_eq_some_iff.1 hb).1
  have hg := grownBy_putObj' w b o'
  refine H.upd p hi hn hg.os hg.tape hg.output hg.size (fun S h => ⟨⟨World.putObj_heap_same hlt, .inl h.2⟩, fun k hk hS => World.putObj_heap_other (fun e => hS (by rw [e]; exact h.2))⟩)
theorem Hp.share (H : Hp w0 w L) {lab : Nat → Nat} (hall : All w lab L) (i : Nat) {X : Asn} (hb : Below w.heap.size w w') (hX : X.P w' (fun k => lab k = i ∨ w.heap.size ≤ k)) : Hp w0 w' (L ++ [(i, X)]) := by
  refine ⟨hb.os.trans H.os, hb.tape.trans H.tape, hb.output.trans H.output, Nat.le_trans H.size hb.size, fun k => if k < w.heap.size then lab k else i, All.snoc (hall.same hb.block (fun k hk => if_pos hk) hb.size) (X.mono hX ?_)⟩
  intro k _ hk2
  show (if k < w.heap.size then lab k else i) = i
  by_cases hlt : k < w.heap.size
  · rw [if_pos hlt]
    exact hk2.elim id (fun h => by omega)
  · rw [if_neg hlt]
theorem Hp.obj_at {b : Nat} {o : Obj} (H : Hp w0 w L) (p : Nat) (hi : L[p]? = some (i, Asn.obj b o)) : w.heap[b]? = some o := H.fact p hi (fun _ h => h.1)
end
def roundEnd (l : Nat) (rec : LoopState → Option Code → Loop) (R : Ending → World → Prop) : Exit → Act → World → Prop
  | .normal, _, W3 => W3.heap[l]? = some (.loop { rec .ready none with state := .busy }) ∧ R (.returned (.bool true)) (W3.putObj l (.loop (rec .ready none)))
  | .ret, _, W3 => W3.heap[l]? = some (.loop { rec .ready none with state := .busy }) ∧ R (.returned (.bool false)) (W3.putObj l (.loop (rec .done (some .ret))))
  | .exit id, _, W3 => W3.heap[l]? = some (.loop { rec .ready none with state := .busy }) ∧ R (.returned (.bool false)) (W3.putObj l (.loop (rec .done (some (.exit id)))))
  | .goto t, _, W3 => W3.heap[l]? = some (.loop { rec .ready none with state := .busy }) ∧ R (.returned (.bool false)) (W3.putObj l (.loop (rec .done (some (.goto t)))))
  | .panic _, _, _ => False
  | .outgrown, _, _ => False
end Go.Proofs.YtkflgkmblebdmaaW.Hp

set_option linter.unusedVariables false
set_option linter.unusedSimpArgs false
namespace Go.Proofs.YtkflgkmblebdmaaW.Hp
open Go.RowKit Go.Shelf Go.Proofs.YtkflgkmblebdmaaW.PrintWords Go.Proofs.YtkflgkmblebdmaaW.PrintLast Go.Proofs.YtkflgkmblebdmaaW.PrintMore
section
variable {P : Program} {ops : Array Oper} {Q : Exit → Act → World → Prop} {l n : Nat}
theorem op_round {o : Oper} {a : Act} {w : World} {K : Act → World → Prop} (hnd : ∀ c, o.op ≠ .defer c) (h : o.wp P a w K Q) : o.wpIn (Fence.wide.inRound l) n P a w K Q := by
  refine ⟨fun _ _ => trivial, ?_⟩
  rw [Oper.semAt_eq _ _ _ hnd]
  unfold Oper.wp at h
  generalize (execOp a.eval o).run P w = r at h ⊢
  cases r with
  | ok x w' =>
    cases x <;> simp only [Oper.upon, Oper.uponIn] at h ⊢ <;>
      first
        | exact h
        | exact h.elim
        | exact ⟨(fun h0 => by cases h0), CallsIn.inRound l (callsIn_wide.2 h)⟩
        | exact ⟨(fun h0 => by cases h0), fun c cs _ => let ⟨v, w', r, s⟩ := h c cs; ⟨v, w', r, stepsIn_wide.2 s⟩⟩
  | halt x w' => cases x <;> simp only [Oper.upon, Oper.uponIn] at h ⊢ <;> exact h
theorem any_round {md : Region.Mode} (hnd : ∀ (i : Nat) (o : Oper), ops[i]? = some o → ∀ c, o.op ≠ .defer c) (hout : ¬ LetsOut Q) : ∀ (fuel : Nat) (listed : Array Bool) (a : Act) (w : World), wpAny P md ops Q fuel listed a w → wpAnyIn (Fence.wide.inRound l) n P md ops Q fuel listed a w
  | 0, _, _, _, h => h
  | fuel + 1, listed, a, w, h => ⟨h.1, fun i hi => by
    have h2 := h.2 i hi
    unfold wpOp at h2
    unfold wpOpIn
    split
    · rename_i ho
      rw [ho] at h2
      exact any_round hnd hout fuel _ a w h2
    · rename_i o ho
      rw [ho] at h2
      simp only at h2
      split
      · rename_i hw
        rw [if_pos hw] at h2
        rcases h2 with h2 | h2
        · exact op_round (hnd i o ho) (Oper.wp_mono (fun a w h => any_round hnd hout fuel _ a w h) h2)
        · exact absurd h2.2 hout
      · rename_i hw
        rw [if_neg hw] at h2
        exact ⟨fun _ _ => trivial, any_round hnd hout fuel _ _ w h2⟩⟩
def noDefer (ops : Array Oper) : Bool := ops.all (fun o => match o.op with | .defer _ => false | _ => true)
theorem noDefer_spec (h : noDefer ops = true) : ∀ (i : Nat) (o : Oper), ops[i]? = some o → ∀ c, o.op ≠ .defer c := by
  intro i o ho c hc
  unfold noDefer at h
  rw [Array.all_eq_true] at h
  obtain ⟨hi, rfl⟩ := Array.getElem?_eq_some_iff.1 ho
  have := h i hi
  rw [hc] at this
  cases this
theorem startR_ {S : World → Prop} {ds : List Nat} {id m : Nat} {a : Act} {w : World} (ls : Array Bool) (hm : P.follows .mixedOrders = true) (hn : ops.size = m) (hl : Array.replicate m false = ls) (hnd : noDefer ops = true) (hout : ¬ LetsOut Q) (hS : S w.drew)
    (h : S w.drew → wpAnyLast P .any ops Q S ds m ls a w.drew) : (Code.region id ops true).wpIn (Fence.wide.inRound l) n P Q a w := by
  subst hn
  subst hl
  exact wpIn_region_any hm (any_round (noDefer_spec hnd) hout _ _ _ _ (wpAny_of_last _ _ _ _ (h hS)))
end
end Go.Proofs.YtkflgkmblebdmaaW.Hp

set_option linter.unusedVariables false
set_option linter.unusedSimpArgs false
namespace Go.Proofs.YtkflgkmblebdmaaW.Hp
open Go.RowKit Go.Shelf Go.Proofs.YtkflgkmblebdmaaW.PrintWords Go.Proofs.YtkflgkmblebdmaaW.PrintMore
theorem quietR_lit {P : Program} {id l m : Nat} {Q : Exit → Act → World → Prop} {a : Act} {w : World} {ops : List Oper} (hm : P.follows .mixedOrders = true) (hB : Region.lexB .any ops.toArray = true) (hnd : noDefer ops.toArray = true)
    (h : wpQuiet P ops.toArray (fun w' => ∃ n, w' = w.drewN n) (fun a' => ∀ w', (∃ n, w' = w.drewN n) → Q .normal a' w') ops a) : (Code.region id ops.toArray true).wpIn (Fence.wide.inRound l) m P Q a w := by
  refine wpIn_mono (Q := fun e a w => match e with | .normal => Q .normal a w | _ => False) ?_ ?_
  rotate_left
  · rintro e a w0 h0
    cases e with
    | normal => exact h0
    | _ => exact h0.elim
  · simp only [Region.lexB, Bool.and_eq_true] at hB
    refine wpIn_region_any hm (any_round (noDefer_spec hnd) (by rintro ⟨a, w, h⟩; exact h) _ _ _ _ (wpAny_of_quiet (C := fun w' => ∃ n, w' = w.drewN n) (Q := fun a' => ∀ w', (∃ n, w' = w.drewN n) → Q .normal a' w') (Q' := fun e a w => match e with | .normal => Q .normal a w | _ => False) (fun _ w' hw' h => h w' hw') _ _ _ _ ⟨1, rfl⟩ ?_))
    have := wpAnyQ_lex (C := fun w' => ∃ n, w' = w.drewN n) (md := .any) hB.1 ops 0 (Array.replicate ops.toArray.size false) a (by simp) (by simpa using hB.2) h
    simpa using this
theorem rf_walkA {P : Program} {n : Nat} {g : Operand} {ps : Array Tmp} {assign body : Code} {Q : Exit → Act → World → Prop} {a : Act} {w : World}
    (h1 : 1 ≤ n) {gf : Nat} {lb : Array Value} (hg : a.eval g = .func (.func gf) #[] lb) (eg : ∀ args w, (callFunc gf args).run P w = .ok (.enter gf args) w)
    (hcall : ∀ (rec : LoopState → Option Code → Loop),
      (∀ (xs : Array Value) (W W₁ : World) (R : Ending → World → Prop) (a₁ : Act), xs.size = ps.size → W.heap[w.heap.size + 1]? = some (.loop (rec .ready none)) → W₁.heap[w.heap.size + 1]? = some (.loop (rec .ready none)) →
        (∀ (K : Act → World → Prop), K a₁ W₁ → assign.wpIn (Fence.wide.inRound (w.heap.size + 1)) (n - 1 - 1) P (Exit.then K (fun _ _ _ => False)) { tmps := (ps.zip xs).foldl (fun t (p, v) => t.setIfInBounds p v) a.tmps, defers := [] } W) →
        body.wpIn (Fence.wide.inRound (w.heap.size + 1)) (n - 1 - 1) P (roundEnd (w.heap.size + 1) rec R) a₁ (W₁.putObj (w.heap.size + 1) (.loop { rec .ready none with state := .busy })) →
        YieldAt Fence.wide (n - 1 - 1) P (w.heap.size + 1) xs W R) →
      CallsIn Fence.wide (n - 1) P gf (#[.func (.yield (w.heap.size + 1)) #[] #[]] ++ lb) ((w.alloc (.deferred (some []))).alloc (.loop (rec .ready none))) fun e W2 => (∃ v, e = .returned v) ∧
        ((W2.heap[w.heap.size + 1]? = some (.loop (rec .ready none)) ∧ ∀ o', Q .normal { a with defers := { target := .collected w.heap.size, args := #[] } :: a.defers } (W2.putObj (w.heap.size + 1) o')) ∨
          ∃ c, W2.heap[w.heap.size + 1]? = some (.loop (rec .done (some c))) ∧ ∀ o', c.wpIn Fence.wide n P Q { a with defers := { target := .collected w.heap.size, args := #[] } :: a.defers } (W2.putObj (w.heap.size + 1) o'))) :
    (Code.rangeFunc g ps assign body).wpIn Fence.wide n P Q a w := by
  refine wpIn_rangeFunc ?_
  intro fn hfn
  rw [show Fence.wide.round = none from rfl]
  obtain ⟨rec, hrec⟩ : ∃ rec : LoopState → Option Code → Loop, rec = fun st pe => { state := st, pending := pe, fn, tmps := a.tmps, params := ps, assign, body, defers := w.heap.size } := ⟨_, rfl⟩
  refine ⟨w.heap.size + 1, [{ target := .collected w.heap.size, args := #[] }], (w.alloc (.deferred (some []))).alloc (.loop (rec .ready none)), { target := .fn (.func gf) lb, args := #[.func (.yield (w.heap.size + 1)) #[] #[]] }, (w.alloc (.deferred (some []))).alloc (.loop (rec .ready none)), gf,
    #[.func (.yield (w.heap.size + 1)) #[] #[]] ++ lb, (w.alloc (.deferred (some []))).alloc (.loop (rec .ready none)), ?_, ?_, ?_, ?_, fun _ => h1, ?_⟩
  · rw [hrec]; exact run_enterLoop_outer _ _ _ _ _
  · simp only [resolve, hg]
    simp [go_sem]
  · intro f' hf'; trivial
  · simp [invoke, go_sem, eg]
  · refine (hcall rec ?_).mono ?_
    · intro xs W W₁ R a₁ hxs hl0 hl hassign hbody
      have hy := run_yield (P := P) (args := xs) hl0 (by rw [hrec]; exact hxs)
      rw [hrec] at hy
      refine ⟨fn, _, assign, body, hy, roundIn_of_wpIn hfn (hassign _ ⟨_, run_beginRound hl (by rw [hrec]), ?_⟩)⟩
      refine wpIn_mono hbody ?_
      rintro e a3 W3 hp
      cases e with
      | normal =>
        have := run_endRound (P := P) none hp.1
        rw [hrec] at this
        exact ⟨_, _, this, by have h2 := hp.2; rw [hrec] at h2; exact h2⟩
      | ret =>
        have := run_endRound (P := P) (some .ret) hp.1
        rw [hrec] at this
        exact ⟨_, _, this, by have h2 := hp.2; rw [hrec] at h2; exact h2⟩
      | exit id =>
        have := run_endRound (P := P) (some (.exit id)) hp.1
        rw [hrec] at this
        exact ⟨_, _, this, by have h2 := hp.2; rw [hrec] at h2; exact h2⟩
      | goto t =>
        have := run_endRound (P := P) (some (.goto t)) hp.1
        rw [hrec] at this
        exact ⟨_, _, this, by have h2 := hp.2; rw [hrec] at h2; exact h2⟩
      | panic ch => exact hp.elim
      | outgrown => exact hp.elim
    · rintro e W2 ⟨⟨v, rfl⟩, (⟨hl, hq⟩ | ⟨c, hl, hq⟩)⟩
      · exact ⟨none, _, by have := run_endLoop (P := P) hl (by rw [hrec]; simp); rw [hrec] at this; exact this, hq _⟩
      · exact ⟨some c, _, by have := run_endLoop (P := P) hl (by rw [hrec]; simp); rw [hrec] at this; exact this, hq _⟩
def nrm (Q : Exit → Act → World → Prop) : Exit → Act → World → Prop
  | .normal, a, w => Q .normal a w
  | _, _, _ => False
theorem nrm_out {Q : Exit → Act → World → Prop} : ¬ LetsOut (nrm Q) := by rintro ⟨a, w, h⟩; exact h
theorem list_round {P : Program} {ops : Array Oper} {l n : Nat} {Q : Exit → Act → World → Prop} (hout : ¬ LetsOut Q) : ∀ (rest : List Oper), (∀ o ∈ rest, ∀ c, o.op ≠ .defer c) → ∀ (a : Act) (w : World), wpList P ops Q rest a w → wpListIn (Fence.wide.inRound l) n P ops Q rest a w
  | [], _, _, _, h => h
  | o :: rest, hnd, a, w, h => by
    unfold wpList at h
    unfold wpListIn
    split
    · rename_i hw
      rw [if_pos hw] at h
      rcases h with h | h
      · exact op_round (hnd o (List.mem_cons_self ..)) (Oper.wp_mono (fun a w h => list_round hout rest (fun o ho => hnd o (List.mem_cons_of_mem _ ho)) a w h) h)
      · exact absurd h.2 hout
    · rename_i hw
      rw [if_neg hw] at h
      exact ⟨fun _ _ => trivial, list_round hout rest (fun o ho => hnd o (List.mem_cons_of_mem _ ho)) _ w h⟩
theorem region_round {P : Program} {id l m : Nat} {Q : Exit → Act → World → Prop} {a : Act} {w : World} {ops : List Oper} (hnd : noDefer ops.toArray = true) (h : wpList P ops.toArray (nrm Q) ops a w) : (Code.region id ops.toArray false).wpIn (Fence.wide.inRound l) m P Q a w := by
  refine wpIn_mono (Q := nrm Q) ?_ ?_
  rotate_left
  · rintro e a w0 h0
    cases e with
    | normal => exact h0
    | _ => exact h0.elim
  · refine wpIn_region_lit (list_round nrm_out _ ?_ _ _ h)
    intro o ho c
    obtain ⟨i, hi⟩ := List.getElem?_of_mem ho
    exact noDefer_spec hnd i o (by simpa using hi) c
end Go.Proofs.YtkflgkmblebdmaaW.Hp

set_option linter.unusedVariables false
set_option linter.unusedSimpArgs false
namespace Go.Proofs.YtkflgkmblebdmaaW.Hp
open Go.RowKit Go.Shelf Go.Proofs.YtkflgkmblebdmaaW.PrintWords Go.Proofs.YtkflgkmblebdmaaW.PrintLast Go.Proofs.YtkflgkmblebdmaaW.PrintMore
theorem nrm_in {Q : Exit → Act → World → Prop} {a : Act} {w : World} (h : Q .normal a w) : nrm Q .normal a w := h
theorem startQ_ {P : Program} {ops : Array Oper} {l n : Nat} {Q : Exit → Act → World → Prop} {S : World → Prop} {ds : List Nat} {id m : Nat} {a : Act} {w : World} (ls : Array Bool) (hm : P.follows .mixedOrders = true) (hn : ops.size = m) (hl : Array.replicate m false = ls) (hnd : noDefer ops = true) (hS : S w.drew)
    (h : S w.drew → wpAnyLast P .any ops (nrm Q) S ds m ls a w.drew) : (Code.region id ops true).wpIn (Fence.wide.inRound l) n P Q a w := by
  refine wpIn_mono (Q := nrm Q) (startR_ ls hm hn hl hnd nrm_out hS h) ?_
  rintro e a w0 h0
  cases e with
  | normal => exact h0
  | _ => exact h0.elim
theorem change_go {P : Program} {md : Region.Mode} {ops : Array Oper} {Q : Exit → Act → World → Prop} {S S' : World → Prop} (hle : ∀ w, S' w → S w) : ∀ (fuel : Nat) (listed : Array Bool) (a : Act) (w : World), S' w → wpAnyLast P md ops Q S' [] fuel listed a w → wpAnyLast P md ops Q S [] fuel listed a w
  | 0, _, _, _, _, h => h
  | fuel + 1, listed, a, w, hS, h => ⟨h.1, fun i hi => wpOp_mono (fun a' w' h' => ⟨fun _ _ => hle _ (h'.1 (by simp) hS), change_go hle fuel _ a' w' (h'.1 (by simp) hS) h'.2⟩) (h.2 i hi)⟩
theorem change_ {P : Program} {md : Region.Mode} {ops : Array Oper} {Q : Exit → Act → World → Prop} {S S' : World → Prop} {fuel : Nat} {listed : Array Bool} {a : Act} {w : World} (hle : ∀ w, S' w → S w) (hS : S' w) (h : S' w → wpAnyLast P md ops Q S' [] fuel listed a w) : wpAnyLast P md ops Q S [] fuel listed a w :=
  change_go hle fuel listed a w hS (h hS)
end Go.Proofs.YtkflgkmblebdmaaW.Hp

set_option linter.unusedVariables false
set_option linter.unusedSimpArgs false
namespace Go.Proofs.YtkflgkmblebdmaaW.Hp
open Go.RowKit Go.Proofs.YtkflgkmblebdmaaW.PrintWords Go.Proofs.YtkflgkmblebdmaaW.PrintMore
open Asn
section
variable {w0 w w' W : World} {L L' : List (Nat × Asn)} {i j m p q : Nat} {A B A' : Asn} {P : Program} {ops : Array Oper} {rest : List Oper} {o : Oper} {a : Act} {Q : Exit → Act → World → Prop} {α : Type}
theorem Hp.at_append_el (d : Kd α) (H : Hp w0 W L) (p q : Nat) (hgd : o.guard = none) (s x : Operand) (t e : TypeId) (z : Value) (bytes : Nat)
    (ho : o.op = .call { callee := .builtin .append, args := #[s, x], argTypes := #[t, t] })
    (ht : P.underlying t = some (.slice e)) (hinfo : (P.info? e).map (fun i => (i.zero, i.size, i.bytes)) = some (some z, d.sz, bytes)) (hz : z.cells.size = d.sz) (hs0 : 0 < d.sz) (hb0 : 0 < bytes)
    (v : Value) (xs : List α) (hi : L[p]? = some (i, row d e v xs)) (hn : lone i L p = true) (x' : α) (cs : List Value) (hj : L[q]? = some (j, el d x' cs)) (hij : i ≠ j) (hn' : lone j L q = true) (hs : a.eval s = v) (hx : a.eval x = .slice (some ⟨W.heap.size, 0, none⟩) 1 1) (hl : (xs.length + 1) * bytes ≤ 140737488355328)
    (h : ∀ v1 w1, Hp w0 w1 ((L.set q (j, top)).set p (i, row d e v1 (xs ++ [x']))) → wpList P ops Q rest (a.put o.dst v1) w1) : wpList P ops Q (o :: rest) a (W.alloc (.cells cs.toArray e)) := by
  have hpq : p ≠ q := by
    intro e
    subst e
    rw [hi] at hj
    simp only [Option.some.injEq, Prod.mk.injEq] at hj
    exact hij hj.1
  have H2 := H.join p q hi hj hij hn hn'
  have hi2 : (L.set q (j, top))[p]? = some (i, row d e v xs) := by rw [List.getElem?_set_ne (Ne.symm hpq)]; exact hi
  have hlt : p < (L.set q (j, top)).length := (List.getElem?_eq_some_iff.1 hi2).1
  have hi3 : ((L.set q (j, top)).set p (i, star (row d e v xs) (el d x' cs)))[p]? = some (i, star (row d e v xs) (el d x' cs)) := by rw [List.getElem?_set_self hlt]
  have hn3 : lone i ((L.set q (j, top)).set p (i, star (row d e v xs) (el d x' cs))) p = true := by rw [lone_set hi2, lone_set hj]; exact hn
  obtain ⟨lab, hall⟩ := H2.all
  obtain ⟨S, T, hd, hST, hR, hE⟩ := hall.get hi3
  have hR0 := Kd.R_bound hR
  have hE0 := d.M_bound hE
  refine Kd.R_append d (w0 := w0) 0 hgd s x t e z bytes ho ht hinfo hz hs0 hb0 v xs x' cs (fun k => lab k = i ∨ W.heap.size ≤ k) (fun k => T k ∧ k < W.heap.size) hs hx (d.M_mono (fun k hk => ⟨hk.1, hk.2.2.1⟩) hE0) (fun k hk => ⟨.inl (hST k (.inr hk.1) hk.2), fun he => hd k (hR.1 k he.symm) hk.1⟩) (fun _ hk => .inr hk) (Kd.R_mono hR0 (fun k hk => .inl (hST k (.inl hk.1) hk.2.2.1))) H2.old0 (Nat.zero_le _) hl ?_
  intro v1 w1 hR1 hb1 hg1 _
  refine h v1 w1 ?_
  have := H2.turn hall p hn3 hg1.os hg1.tape hg1.output hg1.size (A' := row d e v1 (xs ++ [x'])) hR1 (fun k hk hne => hg1.block k hk (fun e => hne (hST k (.inl (hR.1 k e.symm)) hk)))
  rwa [set_twice] at this
end
end Go.Proofs.YtkflgkmblebdmaaW.Hp

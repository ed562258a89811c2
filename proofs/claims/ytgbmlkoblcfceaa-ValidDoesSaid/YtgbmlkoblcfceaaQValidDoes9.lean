/-
Of the row ValidDoes: printed walks and plain laws, merged (wip/claim2.py).
-/
import Derived.Test.YtgbmlkoblcfceaaQValidDoes8
import Derived.RangeFuncNested
import Derived.RangeFuncBound
import Derived.RangeFuncCalls
import Derived.RangeFuncLeaves
import Derived.RangeFuncMany
import Derived.RangeFuncFrom
import Derived.Shelf.Abstract
import Derived.Shelf.RegionOpen
import Derived.WalkKit
import Derived.OwnWalkIn
import Derived.TacticsInMore
import Derived.LoopNIn
import Derived.LoopIn
import Derived.Deep.Heap
import Derived.WalkMore
import Derived.Stop.RegionWithIn
set_option linter.unusedVariables false
set_option linter.unusedSimpArgs false
namespace Go.Proofs.YtgbmlkoblcfceaaW.Hp
open Go.RowKit Go.Shelf Go.Proofs.YtgbmlkoblcfceaaW.PrintWords Go.Proofs.YtgbmlkoblcfceaaW.PrintMore
open Asn
section
variable {w0 w w' W : World} {L L' : List (Nat × Asn)} {i j m p q : Nat} {A B A' : Asn}
theorem Hp.put_obj {b : Nat} {o : Obj} (H : Hp w0 w L) (p : Nat) (hi : L[p]? = some (i, Asn.obj b o)) (hn : lone i L p = true) (o' : Obj) : Hp w0 (w.putObj b o') (L.set p (i, Asn.obj b o')) := by
  obtain ⟨lab, hall⟩ := H.all
  have hb := (hall.get hi).1
  have hlt : b < w.heap.size := (Array.getElem?_eq_some_iff.1 hb).1
  have hg := grownBy_putObj' w b o'
  refine H.upd p hi hn hg.os hg.tape hg.output hg.size (fun S h => ⟨⟨World.putObj_heap_same hlt, .inl h.2⟩, fun k hk hS => World.putObj_heap_other (fun e => hS (by rw [e]; exact h.2))⟩)
theorem Hp.share (H : Hp w0 w L) {lab : Nat → Nat} (hall : All w lab L) (i : Nat) {X : Asn} (hb : Below w.heap.size w w') (hX : X.P w' (fun k => lab k = i ∨ w.heap.size ≤ k)) : Hp w0 w' (L ++ [(i, X)]) := by
  refine ⟨hb.os.trans H.os, hb.tape.trans H.tape, hb.output.trans H.output, Nat.le_trans H.size hb.size, fun k => if k < w.heap.size then lab k else i, All.snoc (hall.same hb.block (fun k hk => if_pos hk) hb.size) (X.mono hX ?_)⟩
  intro k _ hk2
  show (if k < w.heap.size then lab k else i) = i
  by_cases hlt : k < w.heap.size
  · rw [if_pos hlt]
    exact hk2.elim id (fun h => by omega)
  · rw [if_neg hlt]
theorem Hp.obj_at {b : Nat} {o : Obj} (H : Hp w0 w L) (p : Nat) (hi : L[p]? = some (i, Asn.obj b o)) : w.heap[b]? = some o := H.fact p hi (fun _ h => h.1)
end
theorem noLab_absorb {w : World} {lab : Nat → Nat} {i j : Nat} : ∀ {L : List (Nat × Asn)}, All w lab L → noLab j L = true → All w (fun k => if lab k = j then i else lab k) L
  | [], _, _ => trivial
  | (l, D) :: L, h, hn => by
    simp only [noLab, Bool.and_eq_true, bne_iff_ne, ne_eq] at hn
    exact ⟨D.mono h.1 (fun k _ hk => by show (if lab k = j then i else lab k) = l; rw [if_neg (by omega)]; exact hk), noLab_absorb h.2 hn.2⟩
theorem all_absorb {w : World} {lab : Nat → Nat} {i j : Nat} {X : Asn} (hX : X.P w (fun k => (if lab k = j then i else lab k) = i)) : ∀ {L : List (Nat × Asn)} {q : Nat}, All w lab L → lone j L q = true → All w (fun k => if lab k = j then i else lab k) (L.set q (i, X))
  | [], _, _, _ => trivial
  | (l, D) :: L, 0, h, hn => ⟨hX, noLab_absorb h.2 hn⟩
  | (l, D) :: L, q + 1, h, hn => by
    simp only [lone, Bool.and_eq_true, bne_iff_ne, ne_eq] at hn
    exact ⟨D.mono h.1 (fun k _ hk => by show (if lab k = j then i else lab k) = l; rw [if_neg (by omega)]; exact hk), all_absorb hX h.2 hn.2⟩
theorem Hp.absorb {w0 w : World} {L : List (Nat × Asn)} {i j : Nat} {A B : Asn} (H : Hp w0 w L) (p q : Nat) (hi : L[p]? = some (i, A)) (hj : L[q]? = some (j, B)) (hij : i ≠ j) (hn' : lone j L q = true) : Hp w0 w (L.set q (i, star B A)) := by
  obtain ⟨lab, h⟩ := H.all
  refine ⟨H.os, H.tape, H.output, H.size, _, all_absorb (i := i) (X := star B A) ⟨fun k => lab k = j, fun k => lab k = i, fun k h1 h2 => hij (h2.symm.trans h1), ?_, h.get hj, h.get hi⟩ h hn'⟩
  intro k hk _
  show (if lab k = j then i else lab k) = i
  rcases hk with hk | hk
  · rw [if_pos hk]
  · rw [if_neg (by omega)]; exact hk
def roundEnd (l : Nat) (rec : LoopState → Option Code → Loop) (R : Ending → World → Prop) : Exit → Act → World → Prop
  | .normal, _, W3 => W3.heap[l]? = some (.loop { rec .ready none with state := .busy }) ∧ R (.returned (.bool true)) (W3.putObj l (.loop (rec .ready none)))
  | .ret, _, W3 => W3.heap[l]? = some (.loop { rec .ready none with state := .busy }) ∧ R (.returned (.bool false)) (W3.putObj l (.loop (rec .done (some .ret))))
  | .exit id, _, W3 => W3.heap[l]? = some (.loop { rec .ready none with state := .busy }) ∧ R (.returned (.bool false)) (W3.putObj l (.loop (rec .done (some (.exit id)))))
  | .goto t, _, W3 => W3.heap[l]? = some (.loop { rec .ready none with state := .busy }) ∧ R (.returned (.bool false)) (W3.putObj l (.loop (rec .done (some (.goto t)))))
  | .panic _, _, _ => False
  | .outgrown, _, _ => False
theorem rf_walk {P : Program} {n : Nat} {g : Operand} {ps : Array Tmp} {assign body : Code} {Q : Exit → Act → World → Prop} {a : Act} {w : World}
    (h1 : 1 ≤ n) {gf : Nat} {lb : Array Value} (hg : a.eval g = .func (.func gf) #[] lb) (eg : ∀ args w, (callFunc gf args).run P w = .ok (.enter gf args) w)
    (hcall : ∀ (rec : LoopState → Option Code → Loop),
      (∀ (xs : Array Value) (W : World) (R : Ending → World → Prop) (a₁ : Act), xs.size = ps.size → W.heap[w.heap.size + 1]? = some (.loop (rec .ready none)) →
        (∀ (K : Act → World → Prop), K a₁ W → assign.wpIn (Fence.wide.inRound (w.heap.size + 1)) (n - 1 - 1) P (Exit.then K (fun _ _ _ => False)) { tmps := (ps.zip xs).foldl (fun t (p, v) => t.setIfInBounds p v) a.tmps, defers := [] } W) →
        body.wpIn (Fence.wide.inRound (w.heap.size + 1)) (n - 1 - 1) P (roundEnd (w.heap.size + 1) rec R) a₁ (W.putObj (w.heap.size + 1) (.loop { rec .ready none with state := .busy })) →
        YieldAt Fence.wide (n - 1 - 1) P (w.heap.size + 1) xs W R) →
      CallsIn Fence.wide (n - 1) P gf (#[.func (.yield (w.heap.size + 1)) #[] #[]] ++ lb) ((w.alloc (.deferred (some []))).alloc (.loop (rec .ready none))) fun e W2 => (∃ v, e = .returned v) ∧
        ((W2.heap[w.heap.size + 1]? = some (.loop (rec .ready none)) ∧ ∀ o', Q .normal { a with defers := { target := .collected w.heap.size, args := #[] } :: a.defers } (W2.putObj (w.heap.size + 1) o')) ∨
          ∃ c, W2.heap[w.heap.size + 1]? = some (.loop (rec .done (some c))) ∧ ∀ o', c.wpIn Fence.wide n P Q { a with defers := { target := .collected w.heap.size, args := #[] } :: a.defers } (W2.putObj (w.heap.size + 1) o'))) :
    (Code.rangeFunc g ps assign body).wpIn Fence.wide n P Q a w := by
  refine wpIn_rangeFunc ?_
  intro fn hfn
  rw [show Fence.wide.round = none from rfl]
  obtain ⟨rec, hrec⟩ : ∃ rec : LoopState → Option Code → Loop, rec = fun st pe => { state := st, pending := pe, fn, tmps := a.tmps, params := ps, assign, body, defers := w.heap.size } := ⟨_, rfl⟩
  refine ⟨w.heap.size + 1, [{ target := .collected w.heap.size, args := #[] }], (w.alloc (.deferred (some []))).alloc (.loop (rec .ready none)), { target := .fn (.func gf) lb, args := #[.func (.yield (w.heap.size + 1)) #[] #[]] }, (w.alloc (.deferred (some []))).alloc (.loop (rec .ready none)), gf,
    #[.func (.yield (w.heap.size + 1)) #[] #[]] ++ lb, (w.alloc (.deferred (some []))).alloc (.loop (rec .ready none)), ?_, ?_, ?_, ?_, fun _ => h1, ?_⟩
  · rw [hrec]; exact run_enterLoop_outer _ _ _ _ _
  · simp only [resolve, hg]
    simp [go_sem]
  · intro f' hf'; trivial
  · simp [invoke, go_sem, eg]
  · refine (hcall rec ?_).mono ?_
    · intro xs W R a₁ hxs hl hassign hbody
      have hy := run_yield (P := P) (args := xs) hl (by rw [hrec]; exact hxs)
      rw [hrec] at hy
      refine ⟨fn, _, assign, body, hy, roundIn_of_wpIn hfn (hassign _ ⟨_, run_beginRound hl (by rw [hrec]), ?_⟩)⟩
      refine wpIn_mono hbody ?_
      rintro e a3 W3 hp
      cases e with
      | normal =>
        have := run_endRound (P := P) none hp.1
        rw [hrec] at this
        exact ⟨_, _, this, by have h2 := hp.2; rw [hrec] at h2; exact h2⟩
      | ret =>
        have := run_endRound (P := P) (some .ret) hp.1
        rw [hrec] at this
        exact ⟨_, _, this, by have h2 := hp.2; rw [hrec] at h2; exact h2⟩
      | exit id =>
        have := run_endRound (P := P) (some (.exit id)) hp.1
        rw [hrec] at this
        exact ⟨_, _, this, by have h2 := hp.2; rw [hrec] at h2; exact h2⟩
      | goto t =>
        have := run_endRound (P := P) (some (.goto t)) hp.1
        rw [hrec] at this
        exact ⟨_, _, this, by have h2 := hp.2; rw [hrec] at h2; exact h2⟩
      | panic ch => exact hp.elim
      | outgrown => exact hp.elim
    · rintro e W2 ⟨⟨v, rfl⟩, (⟨hl, hq⟩ | ⟨c, hl, hq⟩)⟩
      · exact ⟨none, _, by have := run_endLoop (P := P) hl (by rw [hrec]; simp); rw [hrec] at this; exact this, hq _⟩
      · exact ⟨some c, _, by have := run_endLoop (P := P) hl (by rw [hrec]; simp); rw [hrec] at this; exact this, hq _⟩
end Go.Proofs.YtgbmlkoblcfceaaW.Hp

set_option linter.unusedVariables false
set_option linter.unusedSimpArgs false
namespace Go.Proofs.YtgbmlkoblcfceaaW.Hp
open Go.RowKit Go.Shelf Go.Proofs.YtgbmlkoblcfceaaW.PrintWords Go.Proofs.YtgbmlkoblcfceaaW.PrintLast Go.Proofs.YtgbmlkoblcfceaaW.PrintMore
section
variable {P : Program} {ops : Array Oper} {Q : Exit → Act → World → Prop} {l n : Nat}
theorem op_round {o : Oper} {a : Act} {w : World} {K : Act → World → Prop} (hnd : ∀ c, o.op ≠ .defer c) (h : o.wp P a w K Q) : o.wpIn (Fence.wide.inRound l) n P a w K Q := by
  refine ⟨fun _ _ => trivial, ?_⟩
  rw [Oper.semAt_eq _ _ _ hnd]
  unfold Oper.wp at h
  generalize (execOp a.eval o).run P w = r at h ⊢
  cases r with
  | ok x w' =>
    cases x <;> simp only [Oper.upon, Oper.uponIn] at h ⊢ <;>
      first
        | exact h
        | exact h.elim
        | exact ⟨(fun h0 => by cases h0), CallsIn.inRound l (callsIn_wide.2 h)⟩
        | exact ⟨(fun h0 => by cases h0), fun c cs _ => let ⟨v, w', r, s⟩ := h c cs; ⟨v, w', r, stepsIn_wide.2 s⟩⟩
  | halt x w' => cases x <;> simp only [Oper.upon, Oper.uponIn] at h ⊢ <;> exact h
theorem any_round {md : Region.Mode} (hnd : ∀ (i : Nat) (o : Oper), ops[i]? = some o → ∀ c, o.op ≠ .defer c) (hout : ¬ LetsOut Q) : ∀ (fuel : Nat) (listed : Array Bool) (a : Act) (w : World), wpAny P md ops Q fuel listed a w → wpAnyIn (Fence.wide.inRound l) n P md ops Q fuel listed a w
  | 0, _, _, _, h => h
  | fuel + 1, listed, a, w, h => ⟨h.1, fun i hi => by
    have h2 := h.2 i hi
    unfold wpOp at h2
    unfold wpOpIn
    split
    · rename_i ho
      rw [ho] at h2
      exact any_round hnd hout fuel _ a w h2
    · rename_i o ho
      rw [ho] at h2
      simp only at h2
      split
      · rename_i hw
        rw [if_pos hw] at h2
        rcases h2 with h2 | h2
        · exact op_round (hnd i o ho) (Oper.wp_mono (fun a w h => any_round hnd hout fuel _ a w h) h2)
        · exact absurd h2.2 hout
      · rename_i hw
        rw [if_neg hw] at h2
        exact ⟨fun _ _ => trivial, any_round hnd hout fuel _ _ w h2⟩⟩
def noDefer (ops : Array Oper) : Bool := ops.all (fun o => match o.op with | .defer _ => false | _ => true)
theorem noDefer_spec (h : noDefer ops = true) : ∀ (i : Nat) (o : Oper), ops[i]? = some o → ∀ c, o.op ≠ .defer c := by
  intro i o ho c hc
  unfold noDefer at h
  rw [Array.all_eq_true] at h
  obtain ⟨hi, rfl⟩ := Array.getElem?_eq_some_iff.1 ho
  have := h i hi
  rw [hc] at this
  cases this
theorem startR_ {S : World → Prop} {ds : List Nat} {id m : Nat} {a : Act} {w : World} (ls : Array Bool) (hm : P.follows .mixedOrders = true) (hn : ops.size = m) (hl : Array.replicate m false = ls) (hnd : noDefer ops = true) (hout : ¬ LetsOut Q) (hS : S w.drew)
    (h : S w.drew → wpAnyLast P .any ops Q S ds m ls a w.drew) : (Code.region id ops true).wpIn (Fence.wide.inRound l) n P Q a w := by
  subst hn
  subst hl
  exact wpIn_region_any hm (any_round (noDefer_spec hnd) hout _ _ _ _ (wpAny_of_last _ _ _ _ (h hS)))
end
end Go.Proofs.YtgbmlkoblcfceaaW.Hp

set_option linter.unusedVariables false
set_option linter.unusedSimpArgs false
namespace Go.Proofs.YtgbmlkoblcfceaaW.Hp
open Go.RowKit Go.Proofs.YtgbmlkoblcfceaaW.PrintWords Go.Proofs.YtgbmlkoblcfceaaW.PrintMore
def kRaw (m : Nat) : Kd (List Value) where
  sz := m
  E := []
  K := fun _ x cs => cs = x ∧ x.length = m ∧ ∀ u ∈ x, u.oneCell' = true
  M := fun _ _ _ x cs => cs = x ∧ x.length = m ∧ ∀ u ∈ x, u.oneCell' = true
  K_len := fun h => by rw [h.1]; exact h.2.1
  K_one := fun h u hu => h.2.2 u (h.1 ▸ hu)
  K_below := fun _ h => h
  K_of_M := fun h => h
  M_mono := fun _ h => h
  M_bound := fun h => h
  M_move := fun _ h => h
  M_lower := fun _ h => h
def Asn.els {α : Type} (d : Kd α) (ps : List (α × List Value)) : Asn := ⟨fun w ok => ∀ p ∈ ps, d.M w 0 ok p.1 p.2, fun h hm _ p hp => Kd.M_step (h p hp) hm, fun h hs p hp => d.M_mono (fun k hk => hs k hk.2.2.1 hk.1) (d.M_bound (h p hp))⟩
open Asn
section
variable {w0 w : World} {L : List (Nat × Asn)} {i j p q : Nat} {α : Type} {d : Kd α} {e : Nat} {v : Value} {xs : List α} {S : Nat → Prop}
theorem row_raw (h : (row d e v xs).P w S) : ∃ ps : List (α × List Value), ps.map Prod.fst = xs ∧ (star (row (kRaw d.sz) e v (ps.map Prod.snd)) (els d ps)).P w S := by
  obtain ⟨h0, inner, ho, hl, hr⟩ := h
  refine ⟨xs.mapIdx (fun j x => (x, (inner.drop (j * d.sz)).take d.sz)), ?_, ?_⟩
  · apply List.ext_getElem?
    intro n
    rw [List.getElem?_map, List.getElem?_mapIdx]
    cases xs[n]? <;> rfl
  · have key : ∀ n p, (xs.mapIdx (fun j x => (x, (inner.drop (j * d.sz)).take d.sz)))[n]? = some p → xs[n]? = some p.1 ∧ p.2 = (inner.drop (n * d.sz)).take d.sz := by
      intro n p hp
      rw [List.getElem?_mapIdx] at hp
      cases hx : xs[n]? with
      | none => rw [hx] at hp; simp at hp
      | some x =>
        rw [hx] at hp
        simp only [Option.map_some, Option.some.injEq] at hp
        subst hp
        exact ⟨rfl, rfl⟩
    refine ⟨fun k => v.ownBlock = some k, fun k => S k ∧ some k ≠ v.ownBlock, fun k h1 h2 => h2.2 h1.symm, fun k hk _ => hk.elim (fun h => h0 k h) (fun h => h.1), ⟨fun k hk => hk, inner, ?_, ?_, ?_⟩, ?_⟩
    · rw [List.length_map, List.length_mapIdx]
      exact ho
    · rw [List.length_map, List.length_mapIdx]
      exact hl
    · intro n y hy
      rw [List.getElem?_map, Option.map_eq_some_iff] at hy
      obtain ⟨p, hp, rfl⟩ := hy
      obtain ⟨h1, h2⟩ := key n p hp
      have hM := d.K_of_M (hr n p.1 h1)
      rw [← h2] at hM
      exact ⟨h2.symm, d.K_len hM, d.K_one hM⟩
    · intro p hp
      obtain ⟨n, hn⟩ := List.getElem?_of_mem hp
      obtain ⟨h1, h2⟩ := key n p hn
      rw [h2]
      exact hr n p.1 h1
theorem raw_row {ps : List (α × List Value)} (h : (star (row (kRaw d.sz) e v (ps.map Prod.snd)) (els d ps)).P w S) : (row d e v (ps.map Prod.fst)).P w S := by
  obtain ⟨S1, T, hd, hs, ⟨h0, inner, ho, hl, hr⟩, hE⟩ := h
  rw [List.length_map] at ho hl
  refine ⟨fun k hk => hs k (.inl (h0 k hk)) (own_lt ho k hk), inner, by rw [List.length_map]; exact ho, by rw [List.length_map]; exact hl, ?_⟩
  intro n x hx
  rw [List.getElem?_map, Option.map_eq_some_iff] at hx
  obtain ⟨p, hp, rfl⟩ := hx
  have h1 := (hr n p.2 (by rw [List.getElem?_map, hp]; rfl)).1
  change (inner.drop (n * d.sz)).take d.sz = p.2 at h1
  rw [h1]
  exact d.M_mono (fun k hk => ⟨hs k (.inr hk.1) hk.2.2.1, fun he => hd k (h0 k he.symm) hk.1⟩) (d.M_bound (hE p (List.mem_of_getElem? hp)))
theorem Hp.raw_open (H : Hp w0 w L) (p m : Nat) (hi : L[p]? = some (i, row d e v xs)) (hn : lone i L p = true) (hm : m ≠ i) : ∃ ps : List (α × List Value), ps.map Prod.fst = xs ∧ Hp w0 w (L.set p (i, row (kRaw d.sz) e v (ps.map Prod.snd)) ++ [(m, els d ps)]) := by
  have hlt : p < L.length := (List.getElem?_eq_some_iff.1 hi).1
  have H1 := H.imp (A' := ex fun ps : List (α × List Value) => Asn.and (lift (ps.map Prod.fst = xs)) (star (row (kRaw d.sz) e v (ps.map Prod.snd)) (els d ps))) p hi (fun S h => row_raw h)
  obtain ⟨ps, H2⟩ := H1.open_ p (List.getElem?_set_self hlt)
  rw [set_twice] at H2
  have e1 := H2.fact p (List.getElem?_set_self hlt) (fun _ h => h.1)
  have H3 := H2.imp (A' := star (row (kRaw d.sz) e v (ps.map Prod.snd)) (els d ps)) p (List.getElem?_set_self hlt) (fun _ h => h.2)
  rw [set_twice] at H3
  have H4 := H3.split p m (List.getElem?_set_self hlt) (by rw [lone_set hi]; exact hn) hm
  rw [set_twice] at H4
  exact ⟨ps, e1, H4⟩
theorem Hp.raw_close {ps : List (α × List Value)} (H : Hp w0 w L) (p q : Nat) (hi : L[p]? = some (i, row (kRaw d.sz) e v (ps.map Prod.snd))) (hj : L[q]? = some (j, els d ps)) (hij : i ≠ j) (hn : lone i L p = true) (hn' : lone j L q = true) : Hp w0 w ((L.set q (j, top)).set p (i, row d e v (ps.map Prod.fst))) := by
  have hpq : q ≠ p := by
    intro e
    subst e
    rw [hi] at hj
    simp only [Option.some.injEq, Prod.mk.injEq] at hj
    exact hij hj.1
  have hlt : p < (L.set q (j, top)).length := by rw [List.length_set]; exact (List.getElem?_eq_some_iff.1 hi).1
  have H2 := (H.join p q hi hj hij hn hn').imp (A' := row d e v (ps.map Prod.fst)) p (List.getElem?_set_self hlt) (fun _ h => raw_row h)
  rwa [set_twice] at H2
theorem els_sub {ps qs : List (α × List Value)} (h : (els d ps).P w S) (hs : ∀ p ∈ qs, p ∈ ps) : (els d qs).P w S := fun p hp => h p (hs p hp)
end
end Go.Proofs.YtgbmlkoblcfceaaW.Hp

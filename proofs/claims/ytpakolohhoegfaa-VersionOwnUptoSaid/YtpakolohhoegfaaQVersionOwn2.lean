/-
Of the row VersionOwn: printed walks and plain laws, merged (wip/claim2.py).
-/
import Derived.Test.YtpakolohhoegfaaQVersionOwn0
import Derived.ArgAppend
import Derived.Lib.Bytealg
import Derived.Lib.BytesEntry
import Derived.Lib.ConvBytes
import Derived.Laws.MakeOwn
set_option linter.unusedVariables false
set_option linter.unusedSimpArgs false
namespace Go.Proofs.YtpakolohhoegfaaW.Mine
open Go.RowKit Go.Proofs.YtpakolohhoegfaaW.PrintWords

theorem bl_asym : ∀ (x y : List UInt8), (Op.bytesLess x y || x == y) = !(Op.bytesLess y x)
  | [], [] => by simp [Op.bytesLess]
  | [], _ :: _ => by simp [Op.bytesLess]
  | _ :: _, [] => by simp [Op.bytesLess]
  | a :: x, b :: y => by
    have ih := bl_asym x y
    simp only [Op.bytesLess, List.cons_beq_cons]
    by_cases h : a < b
    · have h2 : ¬ b < a := fun h3 => by have := UInt8.lt_iff_toNat_lt.1 h; have := UInt8.lt_iff_toNat_lt.1 h3; omega
      have h4 : ¬ b = a := fun e => by subst e; exact h2 h
      simp [h, h2, h4]
    · by_cases h2 : b < a
      · have h3 : ¬ a = b := fun e => by subst e; exact h h2
        simp [h, h2, h3]
      · have h3 : a = b := by
          apply UInt8.toNat_inj.1
          have e1 : ¬ a.toNat < b.toNat := fun h3 => h (UInt8.lt_iff_toNat_lt.2 h3)
          have e2 : ¬ b.toNat < a.toNat := fun h3 => h2 (UInt8.lt_iff_toNat_lt.2 h3)
          omega
        subst h3
        simpa [h] using ih
theorem str_gtr (t : TypeId) (a b : ByteArray) : binOp .gtr t (.string a) (.string b) = pure (.bool (Op.bytesLess b.toList a.toList)) := by
  have h := bl_asym a.toList b.toList
  simp [binOp, Op.stringOp, h]
theorem str_leq (t : TypeId) (a b : ByteArray) : binOp .leq t (.string a) (.string b) = pure (.bool !(Op.bytesLess b.toList a.toList)) := by
  have h := bl_asym a.toList b.toList
  simp [binOp, Op.stringOp, h]
theorem str_geq (t : TypeId) (a b : ByteArray) : binOp .geq t (.string a) (.string b) = pure (.bool !(Op.bytesLess a.toList b.toList)) := by
  simp [binOp, Op.stringOp]
theorem str_max (x y : ByteArray) : Builtin.max2 (.string x) (.string y) = pure (.string (if Op.bytesLess x.toList y.toList = true then y else x)) := by
  by_cases h : Op.bytesLess x.toList y.toList = true
  · simp [Builtin.max2, Op.stringOp, asBool, h]
  · simp only [Bool.not_eq_true] at h
    simp [Builtin.max2, Op.stringOp, asBool, h]
theorem str_min (x y : ByteArray) : Builtin.min2 (.string x) (.string y) = pure (.string (if Op.bytesLess y.toList x.toList = true then y else x)) := by
  have h2 := bl_asym x.toList y.toList
  by_cases h : Op.bytesLess y.toList x.toList = true
  · simp [Builtin.min2, Op.stringOp, asBool, h, h2]
  · simp only [Bool.not_eq_true] at h
    simp [Builtin.min2, Op.stringOp, asBool, h, h2]
structure FullRow {α : Type} (d : Kd α) (w : World) (v : Value) (xs : List α) : Prop where
  mk :: (out : ∃ A, v = .slice A xs.length xs.length ∧ d.C w A xs.length xs)
theorem FullRow.below {α : Type} {d : Kd α} {w w1 : World} {v : Value} {xs : List α} (h : FullRow d w v xs) (hb : Below w.heap.size w w1) : FullRow d w1 v xs := by
  obtain ⟨A, he, hC⟩ := h.out
  exact ⟨A, he, Kd.C_below hC hb⟩
theorem FullRow.alloc {α : Type} {d : Kd α} {w : World} {v : Value} {xs : List α} (h : FullRow d w v xs) (o : Obj) : FullRow d (w.alloc o) v xs := h.below (below_alloc (Below.refl _ _) o)
theorem FullRow.drewN {α : Type} {d : Kd α} {w : World} {v : Value} {xs : List α} (h : FullRow d w v xs) (n : Nat) : FullRow d (w.drewN n) v xs := h.below (pw_below_drewN (Below.refl _ _) n)
theorem FullRow.drew {α : Type} {d : Kd α} {w : World} {v : Value} {xs : List α} (h : FullRow d w v xs) : FullRow d w.drew v xs := h.below (below_drew (Below.refl _ _))
end Go.Proofs.YtpakolohhoegfaaW.Mine

set_option linter.unusedVariables false
set_option linter.unusedSimpArgs false
namespace Go.Proofs.YtpakolohhoegfaaW.Hp
open Go.RowKit Go.Proofs.YtpakolohhoegfaaW.PrintWords Go.Proofs.YtpakolohhoegfaaW.PrintMore

structure Asn where
  P : World → (Nat → Prop) → Prop
  move : ∀ {w w' : World} {ok : Nat → Prop}, P w ok → (∀ k, ok k → k < w.heap.size → w'.heap[k]? = w.heap[k]?) → w.heap.size ≤ w'.heap.size → P w' ok
  mono : ∀ {w : World} {ok ok' : Nat → Prop}, P w ok → (∀ k, k < w.heap.size → ok k → ok' k) → P w ok'
namespace Asn

def top : Asn := ⟨fun _ _ => True, fun _ _ _ => trivial, fun _ _ => trivial⟩
def lift (φ : Prop) : Asn := ⟨fun _ _ => φ, fun h _ _ => h, fun h _ => h⟩
def obj (b : Nat) (o : Obj) : Asn := ⟨fun w ok => w.heap[b]? = some o ∧ ok b, fun h hm _ => ⟨(hm _ h.2 (blk_lt h.1)).trans h.1, h.2⟩, fun h hs => ⟨h.1, hs _ (blk_lt h.1) h.2⟩⟩
def box (b : Nat) (cs : Array Value) (t : TypeId) : Asn := obj b (.cells cs t (0, 0))
def row {α : Type} (d : Kd α) (e : Nat) (v : Value) (xs : List α) : Asn := ⟨fun w ok => d.R e w 0 ok v xs, fun h hm _ => Kd.R_step h hm, fun h hs => Kd.R_mono (Kd.R_bound h) (fun k hk => hs k hk.2.2.1 hk.1)⟩
def rd {α : Type} (d : Kd α) (A : Option Addr) (n : Nat) (xs : List α) : Asn := ⟨fun w ok => d.F w ok A n xs, fun h hm _ => Kd.F_step h hm, fun h hs => Kd.F_mono (Kd.F_bound h) (fun k hk => hs k hk.2 hk.1)⟩
def ex {α : Type} (f : α → Asn) : Asn := ⟨fun w ok => ∃ x, (f x).P w ok, fun ⟨x, h⟩ hm hs => ⟨x, (f x).move h hm hs⟩, fun ⟨x, h⟩ hs => ⟨x, (f x).mono h hs⟩⟩
def and (A B : Asn) : Asn := ⟨fun w ok => A.P w ok ∧ B.P w ok, fun h hm hs => ⟨A.move h.1 hm hs, B.move h.2 hm hs⟩, fun h hs => ⟨A.mono h.1 hs, B.mono h.2 hs⟩⟩
def star (A B : Asn) : Asn := ⟨fun w ok => ∃ S T : Nat → Prop, (∀ k, S k → ¬ T k) ∧ (∀ k, S k ∨ T k → k < w.heap.size → ok k) ∧ A.P w S ∧ B.P w T,
  fun {w w' ok} ⟨S, T, hd, hs, hA, hB⟩ hm hsz => ⟨fun k => S k ∧ k < w.heap.size, fun k => T k ∧ k < w.heap.size, fun k h1 h2 => hd k h1.1 h2.1, fun k hk _ => hk.elim (fun h => hs k (.inl h.1) h.2) (fun h => hs k (.inr h.1) h.2),
    A.move (A.mono hA (fun k hk h => ⟨h, hk⟩)) (fun k h1 h2 => hm k (hs k (.inl h1.1) h2) h2) hsz, B.move (B.mono hB (fun k hk h => ⟨h, hk⟩)) (fun k h1 h2 => hm k (hs k (.inr h1.1) h2) h2) hsz⟩,
  fun {w ok ok'} ⟨S, T, hd, hs, hA, hB⟩ hm => ⟨S, T, hd, fun k hk hlt => hm k hlt (hs k hk hlt), hA, hB⟩⟩
def old (w0 : World) (S : Nat → Prop) : Asn := ⟨fun w ok => w0.heap.size ≤ w.heap.size ∧ ∀ k, k < w0.heap.size → ¬ S k → ok k ∧ w.heap[k]? = w0.heap[k]?,
  fun h hm hs => ⟨Nat.le_trans h.1 hs, fun k hk hn => ⟨(h.2 k hk hn).1, (hm k (h.2 k hk hn).1 (Nat.lt_of_lt_of_le hk h.1)).trans (h.2 k hk hn).2⟩⟩,
  fun h hs => ⟨h.1, fun k hk hn => ⟨hs k (Nat.lt_of_lt_of_le hk h.1) (h.2 k hk hn).1, (h.2 k hk hn).2⟩⟩⟩
end Asn
open Asn
def All (w : World) (lab : Nat → Nat) : List (Nat × Asn) → Prop
  | [] => True
  | (i, A) :: L => A.P w (fun k => lab k = i) ∧ All w lab L
def noLab (i : Nat) : List (Nat × Asn) → Bool
  | [] => true
  | (j, _) :: L => (j != i) && noLab i L
def lone (i : Nat) : List (Nat × Asn) → Nat → Bool
  | [], _ => true
  | _ :: L, 0 => noLab i L
  | (j, _) :: L, p + 1 => (j != i) && lone i L p
structure Hp (w0 w : World) (L : List (Nat × Asn)) : Prop where
  os : w.os = w0.os
  tape : w.tape = w0.tape
  output : w.output = w0.output
  size : w0.heap.size ≤ w.heap.size
  all : ∃ lab, All w lab L
section
variable {w0 w w' : World} {L L' : List (Nat × Asn)} {lab lab' : Nat → Nat} {i j m p q : Nat} {A B A' : Asn}
theorem All.get (h : All w lab L) : ∀ {p : Nat}, L[p]? = some (i, A) → A.P w (fun k => lab k = i) := by
  induction L with
  | nil => intro p hp; simp at hp
  | cons x L ih =>
    obtain ⟨j, B⟩ := x
    intro p hp
    cases p with
    | zero => simp only [List.getElem?_cons_zero, Option.some.injEq, Prod.mk.injEq] at hp; obtain ⟨rfl, rfl⟩ := hp; exact h.1
    | succ p => exact ih h.2 (by simpa using hp)
theorem Asn.step (h : A.P w (fun k => lab k = j)) (hj : j ≠ i) (hk : ∀ k, k < w.heap.size → lab k ≠ i → w'.heap[k]? = w.heap[k]?) (hl : ∀ k, k < w.heap.size → lab k ≠ i → lab' k = lab k) (hs : w.heap.size ≤ w'.heap.size) : A.P w' (fun k => lab' k = j) := by
  have h1 := A.mono h (ok' := fun k => lab k = j ∧ k < w.heap.size) (fun k hk h => ⟨h, hk⟩)
  have h2 := A.move (w' := w') h1 (fun k h3 h4 => hk k h4 (by have := h3.1; omega)) hs
  exact A.mono h2 (fun k _ h3 => (hl k h3.2 (by have := h3.1; omega)).trans h3.1)
theorem All.step (h : All w lab L) (hn : noLab i L = true) (hk : ∀ k, k < w.heap.size → lab k ≠ i → w'.heap[k]? = w.heap[k]?) (hl : ∀ k, k < w.heap.size → lab k ≠ i → lab' k = lab k) (hs : w.heap.size ≤ w'.heap.size) : All w' lab' L := by
  induction L with
  | nil => trivial
  | cons x L ih =>
    obtain ⟨j, B⟩ := x
    simp only [noLab, Bool.and_eq_true, bne_iff_ne, ne_eq] at hn
    exact ⟨Asn.step h.1 hn.1 hk hl hs, ih h.2 hn.2⟩
theorem All.set (h : All w lab L) : ∀ {p : Nat}, lone i L p = true → A'.P w' (fun k => lab' k = i) → (∀ k, k < w.heap.size → lab k ≠ i → w'.heap[k]? = w.heap[k]?) → (∀ k, k < w.heap.size → lab k ≠ i → lab' k = lab k) → w.heap.size ≤ w'.heap.size → All w' lab' (L.set p (i, A')) := by
  induction L with
  | nil => intro p _ _ _ _ _; trivial
  | cons x L ih =>
    obtain ⟨j, B⟩ := x
    intro p hn hA hk hl hs
    cases p with
    | zero => exact ⟨hA, All.step h.2 hn hk hl hs⟩
    | succ p =>
      simp only [lone, Bool.and_eq_true, bne_iff_ne, ne_eq] at hn
      exact ⟨Asn.step h.1 hn.1 hk hl hs, ih h.2 hn.2 hA hk hl hs⟩
theorem All.snoc (h : All w lab L) (hA : A.P w (fun k => lab k = i)) : All w lab (L ++ [(i, A)]) := by
  induction L with
  | nil => exact ⟨hA, trivial⟩
  | cons x L ih => exact ⟨h.1, ih h.2⟩
theorem All.same (h : All w lab L) (hk : ∀ k, k < w.heap.size → w'.heap[k]? = w.heap[k]?) (hl : ∀ k, k < w.heap.size → lab' k = lab k) (hs : w.heap.size ≤ w'.heap.size) : All w' lab' L := by
  induction L with
  | nil => trivial
  | cons x L ih =>
    obtain ⟨j, B⟩ := x
    have h1 := B.mono h.1 (ok' := fun k => lab k = j ∧ k < w.heap.size) (fun k hk h => ⟨h, hk⟩)
    have h2 := B.move (w' := w') h1 (fun k h3 h4 => hk k h4) hs
    exact ⟨B.mono h2 (fun k _ h3 => (hl k h3.2).trans h3.1), ih h.2⟩
theorem All.mem (h : All w lab L) (hx : (i, A) ∈ L) : A.P w (fun k => lab k = i) := by
  obtain ⟨p, hp⟩ := List.mem_iff_getElem?.1 hx
  exact h.get hp
theorem All.sub (h : All w lab L) (hs : ∀ x ∈ L', x ∈ L) : All w lab L' := by
  induction L' with
  | nil => trivial
  | cons x L' ih => exact ⟨h.mem (hs _ (List.mem_cons_self ..)), ih (fun y hy => hs y (List.mem_cons_of_mem _ hy))⟩
namespace Hp

theorem same (H : Hp w0 w L) (hb : Below w.heap.size w w') : Hp w0 w' L :=
  ⟨hb.os.trans H.os, hb.tape.trans H.tape, hb.output.trans H.output, Nat.le_trans H.size hb.size, let ⟨lab, h⟩ := H.all; ⟨lab, h.same hb.block (fun _ _ => rfl) hb.size⟩⟩
theorem drew (H : Hp w0 w L) : Hp w0 w.drew L := H.same (below_drew (Below.refl _ _))
theorem drewN (H : Hp w0 w L) (n : Nat) : Hp w0 (w.drewN n) L := H.same (pw_below_drewN (Below.refl _ _) n)
theorem sub (H : Hp w0 w L) (hs : ∀ x ∈ L', x ∈ L) : Hp w0 w L' := ⟨H.os, H.tape, H.output, H.size, let ⟨lab, h⟩ := H.all; ⟨lab, h.sub hs⟩⟩
def at_ (L : List (Nat × Asn)) (ps : List Nat) : List (Nat × Asn) := ps.filterMap (fun p => L[p]?)
theorem keep (H : Hp w0 w L) (ps : List Nat) : Hp w0 w (at_ L ps) := H.sub (fun x hx => by
  obtain ⟨p, _, hp⟩ := List.mem_filterMap.1 hx
  exact List.mem_of_getElem? hp)
theorem get (H : Hp w0 w L) (p : Nat) (hi : L[p]? = some (i, A)) : ∃ S, A.P w S := let ⟨lab, h⟩ := H.all; ⟨_, h.get hi⟩
theorem fact (H : Hp w0 w L) (p : Nat) (hi : L[p]? = some (i, A)) {φ : Prop} (h : ∀ S, A.P w S → φ) : φ := let ⟨S, hS⟩ := H.get p hi; h S hS
theorem all_set (h : All w lab L) (hi : L[p]? = some (i, A)) (hA : A'.P w (fun k => lab k = i)) : All w lab (L.set p (i, A')) := by
  induction L generalizing p with
  | nil => trivial
  | cons x L ih =>
    obtain ⟨j, B⟩ := x
    cases p with
    | zero => exact ⟨hA, h.2⟩
    | succ p => exact ⟨h.1, ih h.2 (by simpa using hi)⟩
theorem imp (H : Hp w0 w L) (p : Nat) (hi : L[p]? = some (i, A)) (h : ∀ S, A.P w S → A'.P w S) : Hp w0 w (L.set p (i, A')) :=
  ⟨H.os, H.tape, H.output, H.size, let ⟨lab, hl⟩ := H.all; ⟨lab, all_set hl hi (h _ (hl.get hi))⟩⟩
theorem open_ (H : Hp w0 w L) (p : Nat) {α : Type} {f : α → Asn} (hi : L[p]? = some (i, ex f)) : ∃ x, Hp w0 w (L.set p (i, f x)) := by
  obtain ⟨lab, h⟩ := H.all
  obtain ⟨x, hx⟩ := h.get hi
  exact ⟨x, H.os, H.tape, H.output, H.size, lab, all_set h hi hx⟩
theorem upd (H : Hp w0 w L) (p : Nat) (hi : L[p]? = some (i, A)) (hn : lone i L p = true) (ho : w'.os = w.os) (ht : w'.tape = w.tape) (hu : w'.output = w.output) (hs : w.heap.size ≤ w'.heap.size)
    (hA : ∀ S, A.P w S → A'.P w' (fun k => S k ∨ w.heap.size ≤ k) ∧ ∀ k, k < w.heap.size → ¬ S k → w'.heap[k]? = w.heap[k]?) : Hp w0 w' (L.set p (i, A')) := by
  obtain ⟨lab, h⟩ := H.all
  obtain ⟨h1, h2⟩ := hA _ (h.get hi)
  refine ⟨ho.trans H.os, ht.trans H.tape, hu.trans H.output, Nat.le_trans H.size hs, fun k => if k < w.heap.size then lab k else i, h.set hn (A'.mono h1 ?_) (fun k hk hl => h2 k hk hl) (fun k hk _ => if_pos hk) hs⟩
  intro k _ hk
  by_cases hlt : k < w.heap.size
  · rw [if_pos hlt]
    exact hk.elim id (fun h => by omega)
  · rw [if_neg hlt]
theorem new (H : Hp w0 w L) (m : Nat) (hb : Below w.heap.size w w') (hA : A.P w' (fun k => w.heap.size ≤ k)) : Hp w0 w' (L ++ [(m, A)]) := by
  obtain ⟨lab, h⟩ := H.all
  refine ⟨hb.os.trans H.os, hb.tape.trans H.tape, hb.output.trans H.output, Nat.le_trans H.size hb.size, fun k => if k < w.heap.size then lab k else m, All.snoc (h.same hb.block (fun k hk => if_pos hk) hb.size) (A.mono hA (fun k _ hk => if_neg (by omega)))⟩
theorem free (H : Hp w0 w L) (m : Nat) (hA : A.P w (fun _ => False)) : Hp w0 w (L ++ [(m, A)]) :=
  ⟨H.os, H.tape, H.output, H.size, let ⟨lab, h⟩ := H.all; ⟨lab, h.snoc (A.mono hA (fun _ _ hk => hk.elim))⟩⟩
theorem split (H : Hp w0 w L) (p m : Nat) (hi : L[p]? = some (i, star A B)) (hn : lone i L p = true) (hm : m ≠ i) : Hp w0 w (L.set p (i, A) ++ [(m, B)]) := by
  obtain ⟨lab, h⟩ := H.all
  obtain ⟨S, T, hd, hs, hA, hB⟩ := h.get hi
  classical
  refine ⟨H.os, H.tape, H.output, H.size, fun k => if T k ∧ k < w.heap.size then m else lab k, All.snoc (h.set hn (A.mono hA ?_) (fun _ _ _ => rfl) ?_ (Nat.le_refl _)) (B.mono hB (fun k hlt hk => if_pos ⟨hk, hlt⟩))⟩
  · intro k hlt hk
    show (if T k ∧ k < w.heap.size then m else lab k) = i
    rw [if_neg (fun h2 => hd k hk h2.1)]
    exact hs k (.inl hk) hlt
  · intro k hlt hne
    exact if_neg (fun h2 => hne (hs k (.inr h2.1) h2.2))
theorem join (H : Hp w0 w L) (p q : Nat) (hi : L[p]? = some (i, A)) (hj : L[q]? = some (j, B)) (hij : i ≠ j) (hn : lone i L p = true) (hn' : lone j L q = true) : Hp w0 w ((L.set q (j, top)).set p (i, star A B)) := by
  obtain ⟨lab, h⟩ := H.all
  have hA := h.get hi
  have hB := h.get hj
  have h1 : All w (fun k => if lab k = j then i else lab k) (L.set q (j, top)) := by
    have h2 : ∀ {L : List (Nat × Asn)} {q : Nat}, All w lab L → lone j L q = true → All w (fun k => if lab k = j then i else lab k) (L.set q (j, top)) := by
      intro L
      induction L with
      | nil => intro _ _ _; trivial
      | cons x L ih =>
        obtain ⟨l, C⟩ := x
        intro q h hn
        have h3 : ∀ {L : List (Nat × Asn)}, All w lab L → noLab j L = true → All w (fun k => if lab k = j then i else lab k) L := by
          intro L
          induction L with
          | nil => intro _ _; trivial
          | cons y L ih =>
            obtain ⟨l, D⟩ := y
            intro h hn
            simp only [noLab, Bool.and_eq_true, bne_iff_ne, ne_eq] at hn
            exact ⟨D.mono h.1 (fun k _ hk => by show (if lab k = j then i else lab k) = l; rw [if_neg (by omega)]; exact hk), ih h.2 hn.2⟩
        cases q with
        | zero => exact ⟨trivial, h3 h.2 hn⟩
        | succ q =>
          simp only [lone, Bool.and_eq_true, bne_iff_ne, ne_eq] at hn
          exact ⟨C.mono h.1 (fun k _ hk => by show (if lab k = j then i else lab k) = l; rw [if_neg (by omega)]; exact hk), ih h.2 hn.2⟩
    exact h2 h hn'
  have hpq : p ≠ q := by
    intro e
    subst e
    rw [hi] at hj
    simp only [Option.some.injEq, Prod.mk.injEq] at hj
    exact hij hj.1
  refine ⟨H.os, H.tape, H.output, H.size, _, all_set (A := A) h1 (by rw [List.getElem?_set_ne (Ne.symm hpq)]; exact hi) ⟨fun k => lab k = i, fun k => lab k = j, fun k h1 h2 => hij (h1.symm.trans h2), ?_, hA, hB⟩⟩
  intro k hk _
  show (if lab k = j then i else lab k) = i
  rcases hk with hk | hk
  · rw [if_neg (by omega)]; exact hk
  · rw [if_pos hk]
theorem below {S : Nat → Prop} (H : Hp w0 w L) (p : Nat) (hi : L[p]? = some (i, old w0 S)) (hS : ∀ k, ¬ S k) : Below w0.heap.size w0 w :=
  ⟨H.os, H.tape, H.output, H.size, fun k hk => let ⟨lab, h⟩ := H.all; ((h.get hi).2 k hk (hS k)).2⟩
theorem start (w : World) : Hp w w [(0, old w (fun _ => False))] := ⟨rfl, rfl, rfl, Nat.le_refl _, fun _ => 0, ⟨Nat.le_refl _, fun k _ _ => ⟨rfl, rfl⟩⟩, trivial⟩
theorem read {α : Type} {d : Kd α} (H : Hp w0 w L) (p : Nat) {S : Nat → Prop} (hi : L[p]? = some (i, old w0 S)) {A : Option Addr} {n : Nat} {xs : List α} (h : d.F w0 (fun k => ¬ S k) A n xs) : Hp w0 w (L ++ [(i, rd d A n xs)]) := by
  obtain ⟨lab, hl⟩ := H.all
  have ho := hl.get hi
  refine ⟨H.os, H.tape, H.output, H.size, lab, hl.snoc (Kd.F_mono (Kd.F_step (Kd.F_bound h) (fun k hk hlt => (ho.2 k hk.2 hk.1).2)) (fun k hk => (ho.2 k hk.2 hk.1).1))⟩
theorem cell {b : Nat} {cs : Array Value} {t : TypeId} (H : Hp w0 w L) (p : Nat) (hi : L[p]? = some (i, box b cs t)) (n : Nat) {v : Value} (hv : cs[n]? = some v) : w.cell? ⟨b, n, none⟩ = some v := H.fact p hi (fun S h => (blk_cell h.1 n).trans hv)
theorem unfrozen {b : Nat} {cs : Array Value} {t : TypeId} (H : Hp w0 w L) (p : Nat) (hi : L[p]? = some (i, box b cs t)) (n : Nat) : w.frozen? ⟨b, n, none⟩ = false := H.fact p hi (fun S h => blk_frozen h.1 n)
theorem reads {α : Type} {d : Kd α} {A : Option Addr} {n : Nat} {xs : List α} (H : Hp w0 w L) (p : Nat) (hi : L[p]? = some (i, rd d A n xs)) : d.C w A n xs := H.fact p hi (fun S h => Kd.F_now h)
theorem box_set {b : Nat} {cs : Array Value} {t : TypeId} (H : Hp w0 w L) (p : Nat) (hi : L[p]? = some (i, box b cs t)) (hn : lone i L p = true) (n : Nat) (u : Value) : Hp w0 (w.setCell ⟨b, n, none⟩ u) (L.set p (i, box b (cs.setIfInBounds n u) t)) :=
  H.upd p hi hn rfl rfl rfl (by simp [World.setCell]) (fun S h => ⟨⟨blk_set h.1 n u, .inl h.2⟩, fun k hk hS => Below.heap_setCell w _ u k (fun e => hS (by have e2 : k = b := e; rw [e2]; exact h.2))⟩)
theorem box_new (H : Hp w0 w L) (m : Nat) (cs : Array Value) (t : TypeId) : Hp w0 (w.alloc (.cells cs t (0, 0))) (L ++ [(m, box w.heap.size cs t)]) :=
  H.new m (below_alloc (Below.refl _ _) _) ⟨blk_new w _, Nat.le_refl _⟩
end Hp
end
def Tr (P : Program) (n : FuncId) (args : Array Value) (R A : Asn) (B : Value → Asn) : Prop :=
  ∀ (w : World) (U S : Nat → Prop), R.P w U → A.P w S → (∀ k, U k → ¬ S k) →
    Calls P n args w fun e w' => ∃ r, e = .returned r ∧ (∃ T, (B r).P w' T ∧ ∀ k, T k → S k ∨ w.heap.size ≤ k) ∧ w'.os = w.os ∧ w'.tape = w.tape ∧ w'.output = w.output ∧ w.heap.size ≤ w'.heap.size ∧ ∀ k, k < w.heap.size → ¬ S k → w'.heap[k]? = w.heap[k]?
section
variable {P : Program} {n : FuncId} {args : Array Value} {R A : Asn} {B : Value → Asn} {w0 w : World} {L : List (Nat × Asn)} {i m : Nat}
theorem Tr.intro (h : ∀ (w : World) (S : Nat → Prop), Hp w w [(0, old w S), (0, R), (1, A)] → Calls P n args w fun e w' => ∃ r, e = .returned r ∧ Hp w w' [(0, old w S), (1, B r)]) : Tr P n args R A B := by
  intro w U S hR hA hd
  classical
  refine (h w S ⟨rfl, rfl, rfl, Nat.le_refl _, fun k => if S k then 1 else 0, ⟨Nat.le_refl _, fun k _ hS => ⟨if_neg hS, rfl⟩⟩, R.mono hR (fun k _ hk => if_neg (hd k hk)), A.mono hA (fun k _ hk => if_pos hk), trivial⟩).mono ?_
  rintro e w' ⟨r, rfl, H⟩
  obtain ⟨lab, h0, h1, _⟩ := H.all
  refine ⟨r, rfl, ⟨_, h1, fun k hk => ?_⟩, H.os, H.tape, H.output, H.size, fun k hk hS => (h0.2 k hk hS).2⟩
  by_cases hS : S k
  · exact .inl hS
  · by_cases hlt : k < w.heap.size
    · have h2 := (h0.2 k hlt hS).1
      have h3 : lab k = 1 := hk
      omega
    · exact .inr (by omega)
theorem Hp.call (H : Hp w0 w L) (t : Tr P n args R A B) (p : Nat) (hi : L[p]? = some (i, A)) (hn : lone i L p = true) (hR : ∀ lab, All w lab L → R.P w (fun k => lab k ≠ i)) :
    Calls P n args w fun e w' => ∃ r, e = .returned r ∧ Hp w0 w' (L.set p (i, B r)) := by
  obtain ⟨lab, h⟩ := H.all
  refine (t w _ _ (hR lab h) (h.get hi) (fun k h1 h2 => h1 h2)).mono ?_
  rintro e w' ⟨r, rfl, ⟨T, hT, hS⟩, ho, ht, hu, hs, hk⟩
  refine ⟨r, rfl, ho.trans H.os, ht.trans H.tape, hu.trans H.output, Nat.le_trans H.size hs, fun k => if k < w.heap.size then lab k else i, h.set hn ((B r).mono hT ?_) (fun k hk2 hl => hk k hk2 hl) (fun k hk2 _ => if_pos hk2) hs⟩
  intro k _ hk2
  show (if k < w.heap.size then lab k else i) = i
  by_cases hlt : k < w.heap.size
  · rw [if_pos hlt]
    exact (hS k hk2).elim id (fun h => by omega)
  · rw [if_neg hlt]
theorem Hp.make (H : Hp w0 w L) (m : Nat) (t : Tr P n args R top B) (hR : ∀ lab, All w lab L → R.P w (fun _ => True)) :
    Calls P n args w fun e w' => ∃ r, e = .returned r ∧ Hp w0 w' (L ++ [(m, B r)]) := by
  obtain ⟨lab, h⟩ := H.all
  refine (t w _ (fun _ => False) (hR lab h) trivial (fun _ _ h => h)).mono ?_
  rintro e w' ⟨r, rfl, ⟨T, hT, hS⟩, ho, ht, hu, hs, hk⟩
  refine ⟨r, rfl, H.new m ⟨ho, ht, hu, hs, fun k hk2 => hk k hk2 id⟩ ((B r).mono hT (fun k _ hk2 => (hS k hk2).elim False.elim id))⟩
end
section
variable {P : Program} {ops : Array Oper} {rest : List Oper} {o : Oper} {a : Act} {Q : Exit → Act → World → Prop} {w0 W : World} {L : List (Nat × Asn)} {i : Nat}
theorem Hp.at_box (H : Hp w0 W L) (m : Nat) (hgd : o.guard = none) {N : Tmp} (_hd : o.dst = some N) {cs : Array Value} {t : TypeId}
    (hrun : (execOp a.eval o).run P W = .ok (.value (.pointer (some ⟨W.heap.size, 0, none⟩))) (W.alloc (.cells cs t (0, 0))))
    (h : ∀ g w1, Hp w0 w1 (L ++ [(m, box g cs t)]) → wpList P ops Q rest (a.put o.dst (.pointer (some ⟨g, 0, none⟩))) w1) : wpList P ops Q (o :: rest) a W :=
  Kd.event_run hgd hrun (h _ _ (H.box_new m cs t))
theorem Hp.at_store (H : Hp w0 W L) (p : Nat) {b : Nat} {cs : Array Value} {t : TypeId} (hi : L[p]? = some (i, box b cs t)) (hl : lone i L p = true) (hgd : o.guard = none) {T : TypeId} {z : Tmp} {x : Operand} (_ho : o.op = .store T (.tmp z) x) (hN : o.dst = none) (j : Nat) (u : Value)
    (hrun : (execOp a.eval o).run P W = .ok .skip (W.setCell ⟨b, j, none⟩ u)) {cs' : Array Value} (hc : cs.setIfInBounds j u = cs')
    (h : ∀ w1, Hp w0 w1 (L.set p (i, box b cs' t)) → wpList P ops Q rest a w1) : wpList P ops Q (o :: rest) a W :=
  store_event hgd _ho hN hrun (fun w' e => h w' (by rw [e, ← hc]; exact H.box_set p hi hl j u))
theorem Hp.turn {w w' : World} {lab : Nat → Nat} {A' : Asn} (H : Hp w0 w L) (h : All w lab L) (p : Nat) (hn : lone i L p = true) (ho : w'.os = w.os) (ht : w'.tape = w.tape) (hu : w'.output = w.output) (hs : w.heap.size ≤ w'.heap.size)
    (hA : A'.P w' (fun k => lab k = i ∨ w.heap.size ≤ k)) (hk : ∀ k, k < w.heap.size → lab k ≠ i → w'.heap[k]? = w.heap[k]?) : Hp w0 w' (L.set p (i, A')) := by
  refine ⟨ho.trans H.os, ht.trans H.tape, hu.trans H.output, Nat.le_trans H.size hs, fun k => if k < w.heap.size then lab k else i, h.set hn (A'.mono hA ?_) hk (fun k hk _ => if_pos hk) hs⟩
  intro k _ hk2
  show (if k < w.heap.size then lab k else i) = i
  by_cases hlt : k < w.heap.size
  · rw [if_pos hlt]
    exact hk2.elim id (fun h => by omega)
  · rw [if_neg hlt]
theorem Hp.old0 {w : World} (H : Hp w0 w L) : Below 0 w0 w := ⟨H.os, H.tape, H.output, H.size, fun k hk => absurd hk (Nat.not_lt_zero _)⟩
section
variable {α : Type} {Kc : Act → World → Prop}
theorem Hp.append_of {d : Kd α} {e : Nat} {v v1 : Value} {xs ys : List α} {w1 : World} {lab : Nat → Nat} (H : Hp w0 W L) (h : All W lab L) (p : Nat) (hi : L[p]? = some (i, row d e v xs)) (hn : lone i L p = true)
    (hR : d.R e w1 0 (fun k => lab k = i ∨ W.heap.size ≤ k) v1 ys) (hb : Below 0 w0 w1) (hg : W.grownBy w1 v.ownBlock) : Hp w0 w1 (L.set p (i, row d e v1 ys)) :=
  H.turn h p hn hg.os hg.tape hg.output hg.size hR (fun k hk hne => hg.block k hk (fun e => hne ((h.get hi).1 k e.symm)))
theorem Hp.at_append (d : Kd α) (H : Hp w0 W L) (p : Nat) (hgd : o.guard = none) (s x : Operand) (t e : TypeId) (z : Value) (bytes : Nat)
    (ho : o.op = .call { callee := .builtin .append, args := #[s, x], argTypes := #[t, t] })
    (ht : P.underlying t = some (.slice e)) (hinfo : (P.info? e).map (fun i => (i.zero, i.size, i.bytes)) = some (some z, d.sz, bytes)) (hz : z.cells.size = d.sz) (hs0 : 0 < d.sz) (hb0 : 0 < bytes)
    (v : Value) (xs : List α) (hi : L[p]? = some (i, row d e v xs)) (hn : lone i L p = true) (x' : α) (cs : List Value) (hs : a.eval s = v) (hx : a.eval x = .slice (some ⟨W.heap.size, 0, none⟩) 1 1) (hp : ∀ ok, d.M W 0 ok x' cs) (hl : (xs.length + 1) * bytes ≤ 140737488355328)
    (h : ∀ v1 w1, Hp w0 w1 (L.set p (i, row d e v1 (xs ++ [x']))) → wpList P ops Q rest (a.put o.dst v1) w1) : wpList P ops Q (o :: rest) a (W.alloc (.cells cs.toArray e)) := by
  obtain ⟨lab, hall⟩ := H.all
  exact Kd.R_append d (w0 := w0) 0 hgd s x t e z bytes ho ht hinfo hz hs0 hb0 v xs x' cs (fun k => lab k = i ∨ W.heap.size ≤ k) (fun _ => False) hs hx (hp _) (fun _ hk => hk.elim) (fun _ hk => .inr hk) (Kd.R_mono (hall.get hi) (fun _ hk => .inl hk)) H.old0 (Nat.zero_le _) hl
    (fun v1 w1 hR hb hg _ => h v1 w1 (H.append_of hall p hi hn hR hb hg))
end
end
end Go.Proofs.YtpakolohhoegfaaW.Hp

/-
Of the row ValidDoes: printed walks and plain laws, merged (wip/claim2.py).
-/
import Derived.Test.YtgbmlkoblcfceaaQValidDoes2
import Derived.Test.YtgbmlkoblcfceaaQValidDoes7
set_option linter.unusedVariables false
set_option linter.unusedSimpArgs false
namespace Go.Proofs.YtgbmlkoblcfceaaW.Hp
open Go.RowKit Go.Proofs.YtgbmlkoblcfceaaW.PrintWords Go.Proofs.YtgbmlkoblcfceaaW.PrintMore
def Asn.el {α : Type} (d : Kd α) (x : α) (cs : List Value) : Asn := ⟨fun w ok => d.M w 0 ok x cs, fun h hm _ => Kd.M_step h hm, fun h hs => d.M_mono (fun k hk => hs k hk.2.2.1 hk.1) (d.M_bound h)⟩
open Asn
section
variable {w0 w w' W : World} {L L' : List (Nat × Asn)} {i j m p q : Nat} {A B A' : Asn}
theorem noLab_map (i : Nat) : ∀ {L L' : List (Nat × Asn)}, L.map Prod.fst = L'.map Prod.fst → noLab i L = noLab i L'
  | [], [], _ => rfl
  | [], _ :: _, h => by simp at h
  | _ :: _, [], h => by simp at h
  | (a, _) :: L, (b, _) :: L', h => by
    simp only [List.map_cons, List.cons.injEq] at h
    simp only [noLab]
    rw [h.1, noLab_map i h.2]
theorem lone_map (i : Nat) : ∀ {L L' : List (Nat × Asn)} {p : Nat}, L.map Prod.fst = L'.map Prod.fst → lone i L p = lone i L' p
  | [], [], _, _ => rfl
  | [], _ :: _, _, h => by simp at h
  | _ :: _, [], _, h => by simp at h
  | (a, _) :: L, (b, _) :: L', 0, h => by
    simp only [List.map_cons, List.cons.injEq] at h
    simp only [lone]
    exact noLab_map i h.2
  | (a, _) :: L, (b, _) :: L', p + 1, h => by
    simp only [List.map_cons, List.cons.injEq] at h
    simp only [lone]
    rw [h.1, lone_map i h.2]
theorem map_set (hi : L[p]? = some (i, A)) : (L.set p (i, B)).map Prod.fst = L.map Prod.fst := by
  rw [List.map_set]
  apply List.ext_getElem?
  intro n
  rw [List.getElem?_set]
  split
  · rename_i e
    subst e
    rw [List.getElem?_map, hi]
    split
    · rfl
    · rename_i h
      rw [List.length_map] at h
      have := (List.getElem?_eq_some_iff.1 hi).1
      omega
  · rfl
theorem lone_set (hi : L[p]? = some (i, A)) {k r : Nat} : lone k (L.set p (i, B)) r = lone k L r := lone_map k (map_set hi)
section
variable {P : Program} {ops : Array Oper} {rest : List Oper} {o : Oper} {a : Act} {Q : Exit → Act → World → Prop} {α : Type} {Kc : Act → World → Prop}
theorem Hp.step_append_el (d : Kd α) (H : Hp w0 W L) (p q : Nat) (hw : Region.wanted o (yielded ops a.tmps) = true) (s x : Operand) (t e : TypeId) (z : Value) (bytes : Nat)
    (ho : o.op = .call { callee := .builtin .append, args := #[s, x], argTypes := #[t, t] })
    (ht : P.underlying t = some (.slice e)) (hinfo : (P.info? e).map (fun i => (i.zero, i.size, i.bytes)) = some (some z, d.sz, bytes)) (hz : z.cells.size = d.sz) (hs0 : 0 < d.sz) (hb0 : 0 < bytes)
    (v : Value) (xs : List α) (hi : L[p]? = some (i, row d e v xs)) (hn : lone i L p = true) (x' : α) (cs : List Value) (hj : L[q]? = some (j, el d x' cs)) (hij : i ≠ j) (hn' : lone j L q = true) (hs : a.eval s = v) (hx : a.eval x = .slice (some ⟨W.heap.size, 0, none⟩) 1 1) (hl : (xs.length + 1) * bytes ≤ 140737488355328)
    (h : ∀ v1 w1, Hp w0 w1 ((L.set q (j, top)).set p (i, row d e v1 (xs ++ [x']))) → Kc (a.put o.dst v1) w1) :
    if Region.wanted o (yielded ops a.tmps) = true then Oper.wp P o a (W.alloc (.cells cs.toArray e)) Kc Q else Kc (a.put o.dst undef) (W.alloc (.cells cs.toArray e)) := by
  have hpq : p ≠ q := by
    intro e
    subst e
    rw [hi] at hj
    simp only [Option.some.injEq, Prod.mk.injEq] at hj
    exact hij hj.1
  have H2 := H.join p q hi hj hij hn hn'
  have hi2 : (L.set q (j, top))[p]? = some (i, row d e v xs) := by rw [List.getElem?_set_ne (Ne.symm hpq)]; exact hi
  have hlt : p < (L.set q (j, top)).length := (List.getElem?_eq_some_iff.1 hi2).1
  have hi3 : ((L.set q (j, top)).set p (i, star (row d e v xs) (el d x' cs)))[p]? = some (i, star (row d e v xs) (el d x' cs)) := by rw [List.getElem?_set_self hlt]
  have hn3 : lone i ((L.set q (j, top)).set p (i, star (row d e v xs) (el d x' cs))) p = true := by rw [lone_set hi2, lone_set hj]; exact hn
  obtain ⟨lab, hall⟩ := H2.all
  obtain ⟨S, T, hd, hST, hR, hE⟩ := hall.get hi3
  have hR0 := Kd.R_bound hR
  have hE0 := d.M_bound hE
  refine Kd.R_append_step d (w0 := w0) 0 hw s x t e z bytes ho ht hinfo hz hs0 hb0 v xs x' cs (fun k => lab k = i ∨ W.heap.size ≤ k) (fun k => T k ∧ k < W.heap.size) hs hx (d.M_mono (fun k hk => ⟨hk.1, hk.2.2.1⟩) hE0) (fun k hk => ⟨.inl (hST k (.inr hk.1) hk.2), fun he => hd k (hR.1 k he.symm) hk.1⟩) (fun _ hk => .inr hk) (Kd.R_mono hR0 (fun k hk => .inl (hST k (.inl hk.1) hk.2.2.1))) H2.old0 (Nat.zero_le _) hl ?_
  intro v1 w1 hR1 hb1 hg1 _
  refine h v1 w1 ?_
  have := H2.turn hall p hn3 hg1.os hg1.tape hg1.output hg1.size (A' := row d e v1 (xs ++ [x'])) hR1 (fun k hk hne => hg1.block k hk (fun e => hne (hST k (.inl (hR.1 k e.symm)) hk)))
  rwa [set_twice] at this
theorem Hp.at_append_rows (d : Kd α) (H : Hp w0 W L) (p : Nat) (hgd : o.guard = none) (s x : Operand) (t e : TypeId) (z : Value) (bytes : Nat)
    (ho : o.op = .call { callee := .builtin .append, args := #[s, x], argTypes := #[t, t] })
    (ht : P.underlying t = some (.slice e)) (hinfo : (P.info? e).map (fun i => (i.zero, i.size, i.bytes)) = some (some z, d.sz, bytes)) (hz : z.cells.size = d.sz) (hs0 : 0 < d.sz) (hb0 : 0 < bytes)
    (v : Value) (xs ys : List α) (A : Option Addr) (n c : Nat) (hi : L[p]? = some (i, row d e v xs)) (hn : lone i L p = true) (hs : a.eval s = v) (hx : a.eval x = .slice A n c) (HR : d.C W A n ys) (hKM : ∀ x cs, d.K W x cs → d.M W 0 (fun _ => False) x cs) (hl : (xs.length + n) * bytes ≤ 140737488355328)
    (h : ∀ v1 w1, Hp w0 w1 (L.set p (i, row d e v1 (xs ++ ys))) → wpList P ops Q rest (a.put o.dst v1) w1) : wpList P ops Q (o :: rest) a W := by
  obtain ⟨lab, hall⟩ := H.all
  exact Kd.R_append_rows d (w0 := w0) 0 hgd s x t e z bytes ho ht hinfo hz hs0 hb0 v xs ys A n c (fun k => lab k = i ∨ W.heap.size ≤ k) (fun _ => False) hs hx (Kd.R_mono (hall.get hi) (fun _ hk => .inl hk)) HR hKM (fun _ hk => hk.elim) (fun _ hk => .inr hk) H.old0 (Nat.zero_le _) hl
    (fun v1 w1 hR hb hg _ => h v1 w1 (H.append_of hall p hi hn hR hb hg))
end
section
variable {α : Type} {d : Kd α} {e : Nat} {v : Value} {xs : List α}
theorem Hp.made (H : Hp w0 w L) (m : Nat) (hb : Below w.heap.size w w') (hR : d.R e w' w.heap.size (fun _ => True) v xs) : Hp w0 w' (L ++ [(m, row d e v xs)]) :=
  H.new m hb (Kd.R_lower (Kd.R_mono (Kd.R_bound hR) (fun _ hk => hk.2.1)) (Nat.zero_le _))
theorem Hp.came {A : Option Addr} {n : Nat} (hd : Kd.Heap d) (H : Hp w0 w L) (p : Nat) (hi : L[p]? = some (i, old w0 (fun _ => False))) (h : d.C w0 A n xs) : Hp w0 w (L ++ [(i, rd d A n xs)]) := H.read p hi (Kd.F_mono (Kd.C_F hd h) (fun _ _ => id))
theorem Hp.row_C {A : Option Addr} {n c : Nat} (H : Hp w0 w L) (p : Nat) (hi : L[p]? = some (i, row d e (.slice A n c) xs)) : n = xs.length ∧ n ≤ c ∧ d.C w A xs.length xs := H.fact p hi (fun _ h => Kd.R_reads' h)
theorem Hp.row_set {enc : α → Value} {h1 : ∀ x, (enc x).oneCell' = true} {g c : Nat} (H : Hp w0 w L) (p : Nat) (hi : L[p]? = some (i, row (Kd.scalar enc h1) e (.slice (some ⟨g, 0, none⟩) xs.length c) xs)) (hn : lone i L p = true) (k : Int) (x : α) :
    Hp w0 (w.setCell ⟨g, k.toNat, none⟩ (enc x)) (L.set p (i, row (Kd.scalar enc h1) e (.slice (some ⟨g, 0, none⟩) xs.length c) (xs.set k.toNat x))) := by
  refine H.upd p hi hn rfl rfl rfl (by simp [World.setCell]) (fun S h => ⟨?_, fun k hk hS => Below.heap_setCell w _ _ k (fun e => hS (by have e2 : k = g := e; rw [e2]; exact h.1 g rfl))⟩)
  exact Kd.R_mono (Kd.R_put h k x).1 (fun _ hk => .inl hk)
theorem blk_setCells {g : Nat} : ∀ (l : List Value) (o : Nat) {w : World} (k : Nat), k ≠ g → (w.setCells g o l).heap[k]? = w.heap[k]?
  | [], _, _, _, _ => rfl
  | v :: r, o, w, k, hk => (blk_setCells r (o + 1) (w := w.setCell ⟨g, o, none⟩ v) k hk).trans (Below.heap_setCell w _ _ k hk)
theorem size_setCells {g : Nat} : ∀ (l : List Value) (o : Nat) {w : World}, (w.setCells g o l).heap.size = w.heap.size ∧ (w.setCells g o l).os = w.os ∧ (w.setCells g o l).tape = w.tape ∧ (w.setCells g o l).output = w.output
  | [], _, _ => ⟨rfl, rfl, rfl, rfl⟩
  | v :: r, o, w => by
    obtain ⟨h1, h2, h3, h4⟩ := size_setCells r (o + 1) (w := w.setCell ⟨g, o, none⟩ v)
    exact ⟨h1.trans (by simp [World.setCell]), h2, h3, h4⟩
theorem Hp.row_tails {g n c : Nat} (H : Hp w0 w L) (p : Nat) (hi : L[p]? = some (i, row d e (.slice (some ⟨g, 0, none⟩) n c) xs)) (hn : lone i L p = true) (l : List Value) (o : Nat) (ho : xs.length * d.sz ≤ o) : Hp w0 (w.setCells g o l) (L.set p (i, row d e (.slice (some ⟨g, 0, none⟩) n c) xs)) := by
  obtain ⟨s1, s2, s3, s4⟩ := size_setCells (g := g) l o (w := w)
  refine H.upd p hi hn s2 s3 s4 (Nat.le_of_eq s1.symm) (fun S h => ⟨?_, fun k hk hS => blk_setCells (w := w) l o k (fun e => hS (by rw [e]; exact h.1 g rfl))⟩)
  exact Kd.R_mono (Go.Proofs.Ytgbmlkoblcfceaa.Sl.R_tails l o h ho) (fun _ hk => .inl hk)
end
theorem row_M {α : Type} {d : Kd α} {e : Nat} {ok : Nat → Prop} {A : Option Addr} {n c : Nat} {xs : List α} (h : d.R e w 0 ok (.slice A n c) xs) : ReadsRow (d.M w 0 ok) d.sz w A xs.length xs := by
  obtain ⟨A1, c1, he, _, hr⟩ := OwnRow.reads h.2
  injection he with he1
  subst he1
  exact hr.imp_ (Below.refl _ _) (fun _ _ hp => d.M_mono (fun _ hk => hk.1) hp)
theorem rows_drop {α : Type} {R : α → List Value → Prop} {sz m c : Nat} {A : Option Addr} {xs : List α} (h : ReadsRow R sz w A xs.length xs) (hm : m ≤ xs.length) (hc : xs.length ≤ c) : ReadsRow R sz w (if c = m then A else A.map (·.add (m * sz))) (xs.drop m).length (xs.drop m) := by
  have hl : (xs.drop m).length = xs.length - m := List.length_drop
  refine ⟨rfl, by rw [hl]; have := h.2.1; omega, fun hp => ?_⟩
  rw [hl] at hp
  obtain ⟨ad, rfl, hcell⟩ := h.2.2 (by omega)
  rw [if_neg (by omega)]
  refine ⟨ad.add (m * sz), rfl, fun j p hj => ?_⟩
  rw [List.getElem?_drop] at hj
  obtain ⟨cs, h1, h2, h3⟩ := hcell (m + j) p hj
  refine ⟨cs, h1, h2, fun i u hu => ?_⟩
  rw [add_add, show m * sz + (j * sz + i) = (m + j) * sz + i by rw [Nat.add_mul]; omega]
  exact h3 i u hu
theorem Tr.of {P : Program} {n : FuncId} {args : Array Value} {A : Asn} {B : Value → Asn} (h : ∀ (w : World) (S : Nat → Prop), A.P w S → Calls P n args w fun e w' => ∃ r, e = .returned r ∧ (B r).P w' S ∧ w'.os = w.os ∧ w'.tape = w.tape ∧ w'.output = w.output ∧ w.heap.size ≤ w'.heap.size ∧ ∀ k, k < w.heap.size → ¬ S k → w'.heap[k]? = w.heap[k]?) : Tr P n args top A B := by
  intro w U S _ hA _
  refine (h w S hA).mono ?_
  rintro e w' ⟨r, rfl, hB, h1, h2, h3, h4, h5⟩
  exact ⟨r, rfl, ⟨S, hB, fun _ hk => .inl hk⟩, h1, h2, h3, h4, h5⟩
end
end Go.Proofs.YtgbmlkoblcfceaaW.Hp

/-
Of the row ValidClashes: printed walks and plain laws, merged (wip/claim2.py).
-/
import Derived.Test.YtgbmlkoblcfceaaQValidClashes2
import Derived.Test.YtgbmlkoblcfceaaQValidClashes8
set_option linter.unusedVariables false
set_option linter.unusedSimpArgs false
namespace Go.Proofs.YtgbmlkoblcfceaaW.Hp
open Go.RowKit Go.Proofs.YtgbmlkoblcfceaaW.PrintWords Go.Proofs.YtgbmlkoblcfceaaW.PrintMore
open Asn
section
variable {w0 w w' W : World} {L L' : List (Nat × Asn)} {i j m p q : Nat} {A B A' : Asn}
theorem map_set (hi : L[p]? = some (i, A)) : (L.set p (i, B)).map Prod.fst = L.map Prod.fst := by
  rw [List.map_set]
  apply List.ext_getElem?
  intro n
  rw [List.getElem?_set]
  split
  · rename_i e
    subst e
    rw [List.getElem?_map, hi]
    split
    · rfl
    · rename_i h
      rw [List.length_map] at h
      have := (List.getElem?_eq_some_iff.1 hi).1
      omega
  · rfl
section
variable {α : Type} {d : Kd α} {e : Nat} {v : Value} {xs : List α}
theorem Hp.made (H : Hp w0 w L) (m : Nat) (hb : Below w.heap.size w w') (hR : d.R e w' w.heap.size (fun _ => True) v xs) : Hp w0 w' (L ++ [(m, row d e v xs)]) :=
  H.new m hb (Kd.R_lower (Kd.R_mono (Kd.R_bound hR) (fun _ hk => hk.2.1)) (Nat.zero_le _))
theorem Hp.row_C {A : Option Addr} {n c : Nat} (H : Hp w0 w L) (p : Nat) (hi : L[p]? = some (i, row d e (.slice A n c) xs)) : n = xs.length ∧ n ≤ c ∧ d.C w A xs.length xs := H.fact p hi (fun _ h => Kd.R_reads' h)
theorem Hp.row_set {enc : α → Value} {h1 : ∀ x, (enc x).oneCell' = true} {g c : Nat} (H : Hp w0 w L) (p : Nat) (hi : L[p]? = some (i, row (Kd.scalar enc h1) e (.slice (some ⟨g, 0, none⟩) xs.length c) xs)) (hn : lone i L p = true) (k : Int) (x : α) :
    Hp w0 (w.setCell ⟨g, k.toNat, none⟩ (enc x)) (L.set p (i, row (Kd.scalar enc h1) e (.slice (some ⟨g, 0, none⟩) xs.length c) (xs.set k.toNat x))) := by
  refine H.upd p hi hn rfl rfl rfl (by simp [World.setCell]) (fun S h => ⟨?_, fun k hk hS => Below.heap_setCell w _ _ k (fun e => hS (by have e2 : k = g := e; rw [e2]; exact h.1 g rfl))⟩)
  exact Kd.R_mono (Kd.R_put h k x).1 (fun _ hk => .inl hk)
theorem blk_setCells {g : Nat} : ∀ (l : List Value) (o : Nat) {w : World} (k : Nat), k ≠ g → (w.setCells g o l).heap[k]? = w.heap[k]?
  | [], _, _, _, _ => rfl
  | v :: r, o, w, k, hk => (blk_setCells r (o + 1) (w := w.setCell ⟨g, o, none⟩ v) k hk).trans (Below.heap_setCell w _ _ k hk)
theorem size_setCells {g : Nat} : ∀ (l : List Value) (o : Nat) {w : World}, (w.setCells g o l).heap.size = w.heap.size ∧ (w.setCells g o l).os = w.os ∧ (w.setCells g o l).tape = w.tape ∧ (w.setCells g o l).output = w.output
  | [], _, _ => ⟨rfl, rfl, rfl, rfl⟩
  | v :: r, o, w => by
    obtain ⟨h1, h2, h3, h4⟩ := size_setCells r (o + 1) (w := w.setCell ⟨g, o, none⟩ v)
    exact ⟨h1.trans (by simp [World.setCell]), h2, h3, h4⟩
theorem Hp.row_tails {g n c : Nat} (H : Hp w0 w L) (p : Nat) (hi : L[p]? = some (i, row d e (.slice (some ⟨g, 0, none⟩) n c) xs)) (hn : lone i L p = true) (l : List Value) (o : Nat) (ho : xs.length * d.sz ≤ o) : Hp w0 (w.setCells g o l) (L.set p (i, row d e (.slice (some ⟨g, 0, none⟩) n c) xs)) := by
  obtain ⟨s1, s2, s3, s4⟩ := size_setCells (g := g) l o (w := w)
  refine H.upd p hi hn s2 s3 s4 (Nat.le_of_eq s1.symm) (fun S h => ⟨?_, fun k hk hS => blk_setCells (w := w) l o k (fun e => hS (by rw [e]; exact h.1 g rfl))⟩)
  exact Kd.R_mono (Go.Proofs.Ytgbmlkoblcfceaa.Sl.R_tails l o h ho) (fun _ hk => .inl hk)
end
theorem Tr.of {P : Program} {n : FuncId} {args : Array Value} {A : Asn} {B : Value → Asn} (h : ∀ (w : World) (S : Nat → Prop), A.P w S → Calls P n args w fun e w' => ∃ r, e = .returned r ∧ (B r).P w' S ∧ w'.os = w.os ∧ w'.tape = w.tape ∧ w'.output = w.output ∧ w.heap.size ≤ w'.heap.size ∧ ∀ k, k < w.heap.size → ¬ S k → w'.heap[k]? = w.heap[k]?) : Tr P n args top A B := by
  intro w U S _ hA _
  refine (h w S hA).mono ?_
  rintro e w' ⟨r, rfl, hB, h1, h2, h3, h4, h5⟩
  exact ⟨r, rfl, ⟨S, hB, fun _ hk => .inl hk⟩, h1, h2, h3, h4, h5⟩
end
end Go.Proofs.YtgbmlkoblcfceaaW.Hp

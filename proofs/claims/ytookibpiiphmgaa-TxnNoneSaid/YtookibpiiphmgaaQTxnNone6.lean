/-
Of the row TxnNone: printed walks and plain laws, merged (wip/claim2.py).
-/
import Derived.Test.YtookibpiiphmgaaQTxnNone2
import Derived.Deep.RegionLaw
import Derived.Lib.SliceRun
set_option linter.unusedVariables false
set_option linter.unusedSimpArgs false
namespace Go.Proofs.YtookibpiiphmgaaW.Hp
open Go.RowKit Go.Proofs.YtookibpiiphmgaaW.PrintWords Go.Proofs.YtookibpiiphmgaaW.PrintMore
open Asn

section
variable {w0 w w' W : World} {L L' : List (Nat × Asn)} {i j m p q : Nat} {A B A' : Asn}
theorem noLab_map (i : Nat) : ∀ {L L' : List (Nat × Asn)}, L.map Prod.fst = L'.map Prod.fst → noLab i L = noLab i L'
  | [], [], _ => rfl
  | [], _ :: _, h => by simp at h
  | _ :: _, [], h => by simp at h
  | (a, _) :: L, (b, _) :: L', h => by
    simp only [List.map_cons, List.cons.injEq] at h
    simp only [noLab]
    rw [h.1, noLab_map i h.2]
theorem lone_map (i : Nat) : ∀ {L L' : List (Nat × Asn)} {p : Nat}, L.map Prod.fst = L'.map Prod.fst → lone i L p = lone i L' p
  | [], [], _, _ => rfl
  | [], _ :: _, _, h => by simp at h
  | _ :: _, [], _, h => by simp at h
  | (a, _) :: L, (b, _) :: L', 0, h => by
    simp only [List.map_cons, List.cons.injEq] at h
    simp only [lone]
    exact noLab_map i h.2
  | (a, _) :: L, (b, _) :: L', p + 1, h => by
    simp only [List.map_cons, List.cons.injEq] at h
    simp only [lone]
    rw [h.1, lone_map i h.2]
theorem map_set (hi : L[p]? = some (i, A)) : (L.set p (i, B)).map Prod.fst = L.map Prod.fst := by
  rw [List.map_set]
  apply List.ext_getElem?
  intro n
  rw [List.getElem?_set]
  split
  · rename_i e
    subst e
    rw [List.getElem?_map, hi]
    split
    · rfl
    · rename_i h
      rw [List.length_map] at h
      have := (List.getElem?_eq_some_iff.1 hi).1
      omega
  · rfl
theorem lone_set (hi : L[p]? = some (i, A)) {k r : Nat} : lone k (L.set p (i, B)) r = lone k L r := lone_map k (map_set hi)
section
variable {α : Type} {d : Kd α} {e : Nat} {v : Value} {xs : List α}
theorem Hp.row_C {A : Option Addr} {n c : Nat} (H : Hp w0 w L) (p : Nat) (hi : L[p]? = some (i, row d e (.slice A n c) xs)) : n = xs.length ∧ n ≤ c ∧ d.C w A xs.length xs := H.fact p hi (fun _ h => Kd.R_reads' h)
theorem R_tail {α : Type} {d : Kd α} {e : Nat} {w : World} {base : Nat} {ok : Nat → Prop} {g n c : Nat} {xs : List α} (h : d.R e w base ok (.slice (some ⟨g, 0, none⟩) n c) xs) (o : Nat) (ho : xs.length * d.sz ≤ o) (u : Value) : d.R e (w.setCell ⟨g, o, none⟩ u) base ok (.slice (some ⟨g, 0, none⟩) n c) xs := by
  obtain ⟨h0, inner, ⟨h1, h2⟩, hr⟩ := h
  refine ⟨h0, inner, ⟨h1, ?_⟩, hr.imp_ (fun _ _ hp => d.M_move (fun k hk => Below.heap_setCell w ⟨g, o, none⟩ u k (fun he => hk.2 (by rw [he]; rfl))) hp)⟩
  rcases h2 with ⟨hv, _⟩ | ⟨g', cap, cur, hv, hb, hh, h3, h4, h5, h6⟩
  · cases hv
  · injection hv with hv1 hv2 hv3
    injection hv1 with hv1
    injection hv1 with hv1
    subst hv1; subst hv3; subst hv2
    refine .inr ⟨g, c, cur.setIfInBounds o u, rfl, hb, blk_set hh o u, h3, h4, by rw [Array.size_setIfInBounds]; exact h5, ?_⟩
    rw [Array.toList_setIfInBounds, List.take_set_of_le ho]
    exact h6
theorem R_tails {α : Type} {d : Kd α} {e : Nat} {base : Nat} {ok : Nat → Prop} {g n c : Nat} {xs : List α} : ∀ (l : List Value) (o : Nat) {w : World}, d.R e w base ok (.slice (some ⟨g, 0, none⟩) n c) xs → xs.length * d.sz ≤ o → d.R e (w.setCells g o l) base ok (.slice (some ⟨g, 0, none⟩) n c) xs
  | [], _, _, h, _ => h
  | v :: r, o, _, h, ho => R_tails r (o + 1) (R_tail h o ho v) (by omega)
end
end
end Go.Proofs.YtookibpiiphmgaaW.Hp

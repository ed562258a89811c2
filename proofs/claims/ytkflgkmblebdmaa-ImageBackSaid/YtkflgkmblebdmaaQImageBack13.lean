/-
Of the row ImageBack: printed walks and plain laws, merged (wip/claim2.py).
-/
import Derived.Test.YtkflgkmblebdmaaQImageBack2
import Derived.Test.YtkflgkmblebdmaaQImageBack9
set_option linter.unusedVariables false
set_option linter.unusedSimpArgs false
namespace Go.Proofs.YtkflgkmblebdmaaW.Hp
open Go.RowKit Go.Proofs.YtkflgkmblebdmaaW.PrintWords Go.Proofs.YtkflgkmblebdmaaW.PrintMore
def Asn.el {α : Type} (d : Kd α) (x : α) (cs : List Value) : Asn := ⟨fun w ok => d.M w 0 ok x cs, fun h hm _ => Kd.M_step h hm, fun h hs => d.M_mono (fun k hk => hs k hk.2.2.1 hk.1) (d.M_bound h)⟩
open Asn
section
variable {w0 w w' W : World} {L L' : List (Nat × Asn)} {i j m p q : Nat} {A B A' : Asn}
theorem noLab_map (i : Nat) : ∀ {L L' : List (Nat × Asn)}, L.map Prod.fst = L'.map Prod.fst → noLab i L = noLab i L'
  | [], [], _ => rfl
  | [], _ :: _, h => by simp at h
  | _ :: _, [], h => by simp at h
  | (a, _) :: L, (b, _) :: L', h => by
    simp only [List.map_cons, List.cons.injEq] at h
    simp only [noLab]
    rw [h.1, noLab_map i h.2]
theorem lone_map (i : Nat) : ∀ {L L' : List (Nat × Asn)} {p : Nat}, L.map Prod.fst = L'.map Prod.fst → lone i L p = lone i L' p
  | [], [], _, _ => rfl
  | [], _ :: _, _, h => by simp at h
  | _ :: _, [], _, h => by simp at h
  | (a, _) :: L, (b, _) :: L', 0, h => by
    simp only [List.map_cons, List.cons.injEq] at h
    simp only [lone]
    exact noLab_map i h.2
  | (a, _) :: L, (b, _) :: L', p + 1, h => by
    simp only [List.map_cons, List.cons.injEq] at h
    simp only [lone]
    rw [h.1, lone_map i h.2]
theorem map_set (hi : L[p]? = some (i, A)) : (L.set p (i, B)).map Prod.fst = L.map Prod.fst := by
  rw [List.map_set]
  apply List.ext_getElem?
  intro n
  rw [List.getElem?_set]
  split
  · rename_i e
    subst e
    rw [List.getElem?_map, hi]
    split
    · rfl
    · rename_i h
      rw [List.length_map] at h
      have := (List.getElem?_eq_some_iff.1 hi).1
      omega
  · rfl
theorem lone_set (hi : L[p]? = some (i, A)) {k r : Nat} : lone k (L.set p (i, B)) r = lone k L r := lone_map k (map_set hi)
section
variable {α : Type} {d : Kd α} {e : Nat} {v : Value} {xs : List α}
theorem Hp.made (H : Hp w0 w L) (m : Nat) (hb : Below w.heap.size w w') (hR : d.R e w' w.heap.size (fun _ => True) v xs) : Hp w0 w' (L ++ [(m, row d e v xs)]) :=
  H.new m hb (Kd.R_lower (Kd.R_mono (Kd.R_bound hR) (fun _ hk => hk.2.1)) (Nat.zero_le _))
theorem Hp.came {A : Option Addr} {n : Nat} (hd : Kd.Heap d) (H : Hp w0 w L) (p : Nat) (hi : L[p]? = some (i, old w0 (fun _ => False))) (h : d.C w0 A n xs) : Hp w0 w (L ++ [(i, rd d A n xs)]) := H.read p hi (Kd.F_mono (Kd.C_F hd h) (fun _ _ => id))
theorem Hp.row_C {A : Option Addr} {n c : Nat} (H : Hp w0 w L) (p : Nat) (hi : L[p]? = some (i, row d e (.slice A n c) xs)) : n = xs.length ∧ n ≤ c ∧ d.C w A xs.length xs := H.fact p hi (fun _ h => Kd.R_reads' h)
end
end
end Go.Proofs.YtkflgkmblebdmaaW.Hp

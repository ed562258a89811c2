/-
Of the row RecordSame: printed walks and plain laws, merged (wip/claim2.py).
-/
import Derived.Test.YtkcdmoghnoodmaaQRecordSame0
import Derived.Shelf.SlSortCmp.NoneTotal
import Derived.Lib.SliceRun
import Derived.Lib.Bytealg
namespace Go.Proofs.Ytkcdmoghnoodmaa.Sl
open Go.RowKit Go.Proofs.YtkcdmoghnoodmaaW.PrintWords Go.Proofs.YtkcdmoghnoodmaaW.PrintLast Go.Proofs.YtkcdmoghnoodmaaW.PrintMore
set_option linter.unusedVariables false
set_option linter.unusedSimpArgs false

theorem getD_at {α : Type} {l : List α} {i : Nat} (d : α) (h : i < l.length) : l.getD i d = l[i] := by
  rw [List.getD_eq_getElem?_getD, List.getElem?_eq_getElem h]
  rfl
def DInv {α : Type} (p : α → Bool) (l ys : List α) (i j : Nat) : Prop := ys.length = l.length ∧ i < j ∧ ys.take i = (l.take j).filter (fun x => !p x) ∧ ∀ t, j ≤ t → ys[t]? = l[t]?
theorem DInv.start {α : Type} {p : α → Bool} {l : List α} {i : Nat} (d : α) (h : i < l.length) (ht : p (l.getD i d) = true) (hn : ∀ j, j < i → p (l.getD j d) = false) : DInv p l l i (i + 1) := by
  refine ⟨rfl, Nat.lt_succ_self _, ?_, fun _ _ => rfl⟩
  rw [List.take_succ_eq_append_getElem h, List.filter_append]
  have h1 : (l.take i).filter (fun x => !p x) = l.take i := by
    rw [List.filter_eq_self]
    intro x hx
    obtain ⟨j, hj, rfl⟩ := List.mem_iff_getElem.1 hx
    rw [List.length_take] at hj
    have := hn j (by omega)
    rw [getD_at d (by omega)] at this
    rw [List.getElem_take, this]
    rfl
  rw [getD_at d h] at ht
  rw [h1, List.filter_cons, ht]
  simp
theorem DInv.skip {α : Type} {p : α → Bool} {l ys : List α} {i j : Nat} (h : DInv p l ys i j) (d : α) (hj : j < l.length) (hp : p (l.getD j d) = true) : DInv p l ys i (j + 1) := by
  obtain ⟨h1, h2, h3, h4⟩ := h
  refine ⟨h1, by omega, ?_, fun t ht => h4 t (by omega)⟩
  rw [getD_at d hj] at hp
  rw [List.take_succ_eq_append_getElem hj, List.filter_append, List.filter_cons, hp, h3]
  simp
theorem DInv.keep {α : Type} {p : α → Bool} {l ys : List α} {i j : Nat} (h : DInv p l ys i j) (d : α) (hj : j < l.length) (hp : p (l.getD j d) = false) : DInv p l (ys.set i (l.getD j d)) (i + 1) (j + 1) := by
  obtain ⟨h1, h2, h3, h4⟩ := h
  refine ⟨by rw [List.length_set]; exact h1, by omega, ?_, fun t ht => ?_⟩
  · have e := getD_at d hj
    rw [e] at hp ⊢
    have hi : i < (ys.set i l[j]).length := by rw [List.length_set]; omega
    rw [List.take_succ_eq_append_getElem hj, List.filter_append, List.filter_cons, hp, ← h3, List.take_succ_eq_append_getElem hi, List.getElem_set_self, List.take_set_of_le (Nat.le_refl _)]
    simp
  · rw [List.getElem?_set_ne (by omega)]
    exact h4 t (by omega)
theorem DInv.done {α : Type} {p : α → Bool} {l ys : List α} {i : Nat} (h : DInv p l ys i l.length) : ys.take i = l.filter (fun x => !p x) := by
  have := h.2.2.1
  rwa [List.take_length] at this
end Go.Proofs.Ytkcdmoghnoodmaa.Sl

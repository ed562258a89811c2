/-
A union's ranges rise, none is empty, none touches the next one; so do those of a difference.
-/
import Derived.Test.YtmgbmnjjkcljhaaBx23
import Derived.Test.YtmgbmnjjkcljhaaLibM
namespace Go.Proofs.Ytmgbmnjjkcljhaa.Pure
open Go.RowKit Go.Proofs.Ytmgbmnjjkcljhaa.B Go.Proofs.YtmgbmnjjkcljhaaW.PrintWords Go.Proofs.YtmgbmnjjkcljhaaW.PrintLast Go.Proofs.Ytmgbmnjjkcljhaa.Lib
set_option linter.unusedSimpArgs false
theorem few_inner (y : List (List S27)) (hy : y.length ≤ 2) (i : Nat) (hi : i < 2) (u : List S27) (hc : Canon u) (hu : u.length ≤ 4000000) (h : Ev (fun k => cressetlaw05_KeysFew.l0 k y (y.length : Int) ((i + 1 : Nat) : Int)) true) : ∀ (d n : Nat), n + d = u.length → Ev (fun k => cressetlaw05_KeysFew.l1 k u y (y.length : Int) (i : Int) u (u.length : Int) (n : Int)) true
  | 0, n, hn => by
    have e : wrap64 ((i : Int) + 1) = ((i + 1 : Nat) : Int) := by rw [wr1 (by omega) (by omega)]; omega
    refine Ev.step (fun k => ?_) h
    simp only [cressetlaw05_KeysFew.l1]
    rw [if_neg (by omega), e]
  | d + 1, n, hn => by
    have hlt : n < u.length := by omega
    have e : wrap64 ((n : Int) + 1) = ((n + 1 : Nat) : Int) := by rw [wr1 (by omega) (by omega)]; omega
    have ih := few_inner y hy i hi u hc hu h d (n + 1) (by omega)
    have hne : emp u[n].f0.toList u[n].f1.toList = false := hc.2 u[n] (List.getElem_mem hlt)
    refine Ev.step (fun k => by simp only [cressetlaw05_KeysFew.l1]; rw [if_pos (by omega), if_pos (by omega), if_pos (by omega), rd27 u n hlt, empty_eq, hne]) ?_
    simp only [Option.bind_some, Bool.false_eq_true, if_false, e]
    by_cases h0 : n = 0
    · subst h0
      simp only [if_neg (show ¬ ((0 : Nat) : Int) > 0 by omega)]
      exact ih
    · obtain ⟨m, rfl⟩ : ∃ m, n = m + 1 := ⟨n - 1, by omega⟩
      have hm : m < u.length := by omega
      have e2 : wrap64 (((m + 1 : Nat) : Int) - 1) = (m : Int) := by rw [wr1 (by omega) (by omega)]; omega
      have hb := List.pairwise_iff_getElem.1 hc.1 m (m + 1) hm hlt (by omega)
      have h1 : ¬ u[m].f1.toList = [] := hb.1
      have h2 : Op.bytesLess u[m].f1.toList u[m + 1].f0.toList = true := hb.2
      simp only [if_pos (show ((m + 1 : Nat) : Int) > 0 by omega), e2, if_pos (show (0 : Int) ≤ m by omega), if_pos (show (m : Int) < u.length by omega), rd27 u m hm, if_neg h1, if_pos h2]
      exact ih
theorem KeysFew : cressetlaw05_KeysFew.Pure := by
  intro l a b _ _ _ hU
  have hb := bulk_len l
  have hl : l.length ≤ 1048576 := by omega
  have h1 := uni_len l
  have h2 := minus_len l a b
  refine Ev.rounds (r := true) ?_
  unfold cressetlaw05_KeysFew.f
  refine Ev.bind (uni_ev l (by omega)) ?_
  refine Ev.bind (minus_ev l hl a b) ?_
  simp only [Option.bind_some]
  have hend : Ev (fun k => cressetlaw05_KeysFew.l0 k [uni l, minus l a b] (([uni l, minus l a b] : List (List S27)).length : Int) ((1 + 1 : Nat) : Int)) true := by
    refine Ev.step (fun k => by simp only [cressetlaw05_KeysFew.l0]; rw [if_neg (by simp)]) ?_
    refine Ev.bind live_ev ?_
    exact Ev.now _
  have hmid : Ev (fun k => cressetlaw05_KeysFew.l0 k [uni l, minus l a b] (([uni l, minus l a b] : List (List S27)).length : Int) ((0 + 1 : Nat) : Int)) true := by
    refine Ev.step (fun k => by simp only [cressetlaw05_KeysFew.l0]; rw [if_pos (by simp), if_pos (by omega), if_pos (by simp), show rd_L3 [uni l, minus l a b] ((0 + 1 : Nat) : Int) = minus l a b from rfl]) ?_
    exact few_inner _ (by simp) 1 (by omega) _ (minus_spec l a b).1 (by omega) hend _ 0 (Nat.zero_add _)
  refine Ev.step (fun k => by simp only [cressetlaw05_KeysFew.l0]; rw [if_pos (by simp), if_pos (by omega), if_pos (by simp), show rd_L3 [uni l, minus l a b] 0 = uni l from rfl]) ?_
  exact few_inner _ (by simp) 0 (by omega) _ (uni_spec l).1 (by omega) hmid _ 0 (Nat.zero_add _)
end Go.Proofs.Ytmgbmnjjkcljhaa.Pure

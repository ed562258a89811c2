/-
The document's own ways to what a timestamp sees; which lists are the same, by the library's function.
-/
import Derived.Test.YtpakolohhoegfaaBx9
import Derived.Test.YtpakolohhoegfaaLibA
namespace Go.Proofs.Ytpakolohhoegfaa.Lib
open Go.RowKit Go.Proofs.Ytpakolohhoegfaa.B Go.Proofs.YtpakolohhoegfaaW.PrintWords Go.Proofs.YtpakolohhoegfaaW.PrintLast
set_option linter.unusedVariables false
set_option linter.unusedSimpArgs false
theorem atR_loop (l : List S33) (ts : Int) (hl : l.length ≤ 9223372036854775000) : ∀ (d n : Nat), n + d = l.length → Ev (fun k => cressetref15_At.l0 k l ts (n : Int)) (seen (l.drop n) ts)
  | 0, n, h => by
    rw [List.drop_of_length_le (by omega)]
    refine Ev.step (f := fun _ => some (0, ⟨#[]⟩, false, false)) (fun k => ?_) (Ev.now _)
    simp only [cressetref15_At.l0]
    rw [if_neg (by omega)]
  | d + 1, n, h => by
    have hn : n < l.length := by omega
    have e : wrap64 ((n : Int) + 1) = ((n + 1 : Nat) : Int) := by rw [wr1 (by omega) (by omega)]; omega
    have ih := atR_loop l ts hl d (n + 1) (by omega)
    rw [List.drop_eq_getElem_cons hn]
    by_cases h1 : l[n].f0 ≤ ts
    · have : seen (l[n] :: l.drop (n + 1)) ts = (l[n].f0, l[n].f1, l[n].f2, true) := by unfold seen; rw [List.find?_cons, decide_eq_true h1]
      rw [this]
      refine Ev.step (f := fun _ => some (l[n].f0, l[n].f1, l[n].f2, true)) (fun k => ?_) (Ev.now _)
      simp only [cressetref15_At.l0]
      rw [if_pos (by omega), if_pos (by omega), rd33 l n hn, if_pos h1]
    · have : seen (l[n] :: l.drop (n + 1)) ts = seen (l.drop (n + 1)) ts := by unfold seen; rw [List.find?_cons, decide_eq_false h1]
      rw [this]
      refine Ev.step (fun k => ?_) ih
      simp only [cressetref15_At.l0]
      rw [if_pos (by omega), if_pos (by omega), rd33 l n hn, if_neg h1, e]
theorem atR_ev (l : List S33) (ts : Int) (hl : l.length ≤ 9223372036854775000) : Ev (fun k => cressetref15_At.f k l ts) (seen l ts) := atR_loop l ts hl l.length 0 (by omega)
theorem valueR_ev (l : List S33) (ts : Int) (hl : l.length ≤ 9223372036854775000) : Ev (fun k => cressetref15_Value.f k l ts) (value l ts) := by
  rw [value_seen]
  unfold cressetref15_Value.f
  refine Ev.bind (atR_ev l ts hl) ?_
  split
  · split <;> exact Ev.now _
  · exact Ev.now _
theorem same_loop (l m : List S33) (hl : l.length ≤ 9223372036854775000) (hm : l.length = m.length) : ∀ (d n : Nat), n + d = l.length → Ev (fun k => api_Version_39.l0 k l m (l.length : Int) (n : Int)) (sm l m d n)
  | 0, n, h => by
    refine Ev.step (f := fun _ => some true) (fun k => ?_) (Ev.now _)
    simp only [api_Version_39.l0]
    rw [if_neg (by omega)]
  | d + 1, n, h => by
    have hn : n < l.length := by omega
    have hn2 : n < m.length := by omega
    have e : wrap64 ((n : Int) + 1) = ((n + 1 : Nat) : Int) := by rw [wr1 (by omega) (by omega)]; omega
    have ih := same_loop l m hl hm d (n + 1) (by omega)
    unfold sm
    rw [gt_eq l n hn, gt_eq m n hn2]
    refine Ev.step (fun k => by simp only [api_Version_39.l0]; rw [if_pos (by omega), if_pos (by omega), if_pos (by omega), if_pos (by omega), rd33 l n hn, rd33 m n hn2, neqv]) ?_
    cases eqv l[n] m[n] with
    | true => simp only [Bool.not_true, Bool.false_eq_true, if_false, Bool.true_and, e]; exact ih
    | false => simp only [Bool.not_false, if_true, Bool.false_and]; exact Ev.now _
theorem same_ev (l m : List S33) (hl : l.length ≤ 9223372036854775000) : Ev (fun k => version_Same.f k l m) (same l m) := by
  unfold version_Same.f
  refine Ev.bind (a := same l m) ?_ (Ev.now _)
  unfold same
  by_cases h : l.length = m.length
  · rw [decide_eq_true h, Bool.true_and]
    exact Ev.congr (f := fun k => api_Version_39.l0 k l m (l.length : Int) ((0 : Nat) : Int)) (fun k => by unfold api_Version_39.f; rw [if_pos (by omega)]; rfl) (same_loop l m hl h l.length 0 (by omega))
  · rw [decide_eq_false h, Bool.false_and]
    exact Ev.congr (f := fun _ => some false) (fun k => by unfold api_Version_39.f; rw [if_neg (by omega)]) (Ev.now _)
end Go.Proofs.Ytpakolohhoegfaa.Lib

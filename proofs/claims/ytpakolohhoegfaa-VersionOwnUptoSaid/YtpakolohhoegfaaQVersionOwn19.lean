/-
Of the row VersionOwn: printed walks and plain laws, merged (wip/claim2.py).
-/
import Derived.Test.YtpakolohhoegfaaQVersionOwn3
import Derived.Test.YtpakolohhoegfaaQVersionOwn16
import Derived.Test.YtpakolohhoegfaaQVersionOwn18
namespace Go.Proofs.Ytpakolohhoegfaa.Lib
open Go.RowKit Go.Proofs.Ytpakolohhoegfaa.B Go.Proofs.YtpakolohhoegfaaW.PrintWords Go.Proofs.YtpakolohhoegfaaW.PrintLast
set_option linter.unusedVariables false
set_option linter.unusedSimpArgs false

def more (l : List S33) (v : S33) : List S33 × Int := if vmay v = true then (if 0 < l.length ∧ v.f0 ≤ (gt l 0).f0 then ([], 150) else if l.length ≥ 1024 then ([], 3) else (v :: l, 0)) else ([], 151)
theorem concat_ev (v : S33) (l : List S33) (hl : l.length < 1024) : Ev (fun k => api_Version_40.f k [[v], l]) (v :: l) := by
  have e1 : wrap64 (1 + (l.length : Int)) = 1 + (l.length : Int) := wr1 (by omega) (by omega)
  have a1 : wrap64 (0 + (([v] : List S33).length : Int)) = 1 := by rw [wr1 (by simp) (by simp)]; rfl
  have a2 : wrap64 ((0 : Int) + 1) = 1 := wr1 (by decide) (by decide)
  have a3 : wrap64 ((1 : Int) + 1) = 2 := wr1 (by decide) (by decide)
  have h0 : (0 : Int) < (([[v], l] : List (List S33)).length : Int) := by simp
  have h1 : (1 : Int) < (([[v], l] : List (List S33)).length : Int) := by simp
  have h2 : ¬ (2 : Int) < (([[v], l] : List (List S33)).length : Int) := by simp
  refine Ev.congr (f := fun k => api_Version_40.l0 k [[v], l] 0 [[v], l] 2 0) (fun k => rfl) ?_
  refine Ev.step (fun k => by simp only [api_Version_40.l0]; rw [if_pos (by decide), if_pos (by decide), if_pos h0, show rd_L4 [[v], l] 0 = [v] from rfl, a1, if_neg (by decide), a2]) ?_
  refine Ev.step (fun k => by simp only [api_Version_40.l0]; rw [if_pos (by decide), if_pos (by decide), if_pos h1, show rd_L4 [[v], l] 1 = l from rfl, e1, if_neg (by omega), a3]) ?_
  refine Ev.step (fun k => by simp only [api_Version_40.l0]; rw [if_neg (by decide), show api_Version_60.f (1 + (l.length : Int)) = some [] from if_pos ⟨by omega, by omega, by omega⟩, Option.bind_some]) ?_
  refine Ev.step (fun k => by simp only [api_Version_40.l1]; rw [if_pos h0, if_pos (by decide), if_pos h0, show rd_L4 [[v], l] 0 = [v] from rfl, if_pos (by simp), a2, List.nil_append]) ?_
  refine Ev.step (fun k => by simp only [api_Version_40.l1]; rw [if_pos h1, if_pos (by decide), if_pos h1, show rd_L4 [[v], l] 1 = l from rfl, if_pos (by simp; omega), a3, List.singleton_append]) ?_
  refine Ev.step (f := fun _ => some (v :: l)) (fun k => by simp only [api_Version_40.l1]; rw [if_neg h2]) (Ev.now _)
theorem put_ev (l : List S33) (v : S33) : Ev (fun k => version_Put.f k l v.f0 v.f1 v.f2) (more l v) := by
  unfold version_Put.f more
  rw [may_eq]
  simp only [Option.bind_some]
  have hj : ∀ b : Bool, Ev (fun k => version_Put.j0 k l b v.f0 v.f1 v.f2) (if b = true then ([], 150) else if l.length ≥ 1024 then ([], 3) else (v :: l, 0)) := by
    intro b
    cases b with
    | true => exact Ev.step (f := fun _ => some ([], 150)) (fun k => by simp only [version_Put.j0, if_true]) (Ev.now _)
    | false =>
      simp only [Bool.false_eq_true, if_false]
      by_cases h : l.length ≥ 1024
      · rw [if_pos h]
        exact Ev.step (f := fun _ => some ([], 3)) (fun k => by simp only [version_Put.j0, Bool.false_eq_true, if_false]; rw [if_pos (by omega)]) (Ev.now _)
      · rw [if_neg h]
        refine Ev.step (fun k => by simp only [version_Put.j0, Bool.false_eq_true, if_false]; rw [if_neg (by omega), eta33]) ?_
        refine Ev.bind (concat_ev v l (by omega)) ?_
        exact Ev.now _
  by_cases h1 : vmay v = true
  · simp only [if_pos h1]
    by_cases h2 : 0 < l.length
    · simp only [if_pos (show (l.length : Int) > 0 by omega), if_pos (show 0 < (l.length : Int) by omega), gt_eq l 0 h2]
      have := hj (decide (v.f0 ≤ (rd_T33 l 0).f0))
      have e0 : rd_T33 l 0 = l[0] := rd33 l 0 h2
      rw [e0] at this ⊢
      by_cases h3 : v.f0 ≤ l[0].f0
      · rw [decide_eq_true h3] at this ⊢
        rw [if_pos ⟨h2, h3⟩]
        exact this
      · rw [decide_eq_false h3] at this ⊢
        rw [if_neg (fun h => h3 h.2)]
        exact this
    · simp only [if_neg (show ¬ (l.length : Int) > 0 by omega)]
      rw [if_neg (fun h => h2 h.1)]
      exact hj false
  · simp only [if_neg h1]
    exact Ev.now _
end Go.Proofs.Ytpakolohhoegfaa.Lib

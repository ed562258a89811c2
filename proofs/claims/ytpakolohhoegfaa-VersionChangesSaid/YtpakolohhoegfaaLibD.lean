/-
One version more; the document's own ways to it and to what is pruned.
-/
import Derived.Test.YtpakolohhoegfaaBx11
import Derived.Test.YtpakolohhoegfaaBx12
import Derived.Test.YtpakolohhoegfaaLibC
namespace Go.Proofs.Ytpakolohhoegfaa.Lib
open Go.RowKit Go.Proofs.Ytpakolohhoegfaa.B Go.Proofs.YtpakolohhoegfaaW.PrintWords Go.Proofs.YtpakolohhoegfaaW.PrintLast
set_option linter.unusedVariables false
set_option linter.unusedSimpArgs false
theorem pruneR_loop (l : List S33) (mark : Int) (hl : l.length ≤ 4398046511000) : ∀ (d n : Nat) (K G : List S33) (f : Bool), n + d = l.length → K.length ≤ n → G.length ≤ n → Ev (fun k => cressetref15_Prune.l0 k l mark K G f (n : Int)) (K ++ (prn mark f (l.drop n)).1, G ++ (prn mark f (l.drop n)).2)
  | 0, n, K, G, f, h, _, _ => by
    rw [List.drop_of_length_le (by omega)]
    simp only [prn, List.append_nil]
    refine Ev.step (f := fun _ => some (K, G)) (fun k => ?_) (Ev.now _)
    simp only [cressetref15_Prune.l0]
    rw [if_neg (by omega)]
  | d + 1, n, K, G, f, h, hK, hG => by
    have hn : n < l.length := by omega
    have e : wrap64 ((n : Int) + 1) = ((n + 1 : Nat) : Int) := by rw [wr1 (by omega) (by omega)]; omega
    rw [List.drop_eq_getElem_cons hn]
    have stepK : ∀ g : Bool, Ev (fun k => cressetref15_Prune.l0 k l mark (K ++ [l[n]]) G g ((n + 1 : Nat) : Int)) (K ++ (l[n] :: (prn mark g (l.drop (n + 1))).1), G ++ (prn mark g (l.drop (n + 1))).2) := by
      intro g
      have := pruneR_loop l mark hl d (n + 1) (K ++ [l[n]]) G g (by omega) (by simp; omega) (by omega)
      rwa [List.append_assoc, List.singleton_append] at this
    have stepG : ∀ g : Bool, Ev (fun k => cressetref15_Prune.l0 k l mark K (G ++ [l[n]]) g ((n + 1 : Nat) : Int)) (K ++ (prn mark g (l.drop (n + 1))).1, G ++ (l[n] :: (prn mark g (l.drop (n + 1))).2)) := by
      intro g
      have := pruneR_loop l mark hl d (n + 1) K (G ++ [l[n]]) g (by omega) (by omega) (by simp; omega)
      rwa [List.append_assoc, List.singleton_append] at this
    refine Ev.step (fun k => by simp only [cressetref15_Prune.l0]; rw [if_pos (by omega), if_pos (by omega), rd33 l n hn]) ?_
    simp only [eta33, if_pos (show K.length < 4398046511104 by omega), if_pos (show G.length < 4398046511104 by omega), e]
    by_cases h1 : l[n].f0 > mark
    · simp only [prn, if_pos h1, if_neg (show ¬ l[n].f0 ≤ mark by omega)]
      cases f with
      | true => simp only [if_true]; exact stepK true
      | false => simp only [Bool.false_eq_true, if_false]; exact stepK false
    · simp only [prn, if_neg h1, if_pos (show l[n].f0 ≤ mark by omega)]
      cases f with
      | true => simp only [if_true, Bool.true_eq_false, false_and, if_false]; exact stepG true
      | false =>
        simp only [Bool.false_eq_true, if_false, true_and, Bool.not_false]
        cases h2 : l[n].f2 with
        | true => simp only [if_true, Bool.true_eq_false, if_false]; exact stepG true
        | false => simp only [Bool.false_eq_true, if_false, if_true]; exact stepK true
theorem pruneR_ev (l : List S33) (mark : Int) (hl : l.length ≤ 4398046511000) : Ev (fun k => cressetref15_Prune.f k l mark) (prn mark false l) := pruneR_loop l mark hl l.length 0 [] [] false (by omega) (Nat.le_refl _) (Nat.le_refl _)
def more (l : List S33) (v : S33) : List S33 × Int := if vmay v = true then (if 0 < l.length ∧ v.f0 ≤ (gt l 0).f0 then ([], 150) else if l.length ≥ 1024 then ([], 3) else (v :: l, 0)) else ([], 151)
theorem concat_ev (v : S33) (l : List S33) (hl : l.length < 1024) : Ev (fun k => api_Version_40.f k [[v], l]) (v :: l) := by
  have e1 : wrap64 (1 + (l.length : Int)) = 1 + (l.length : Int) := wr1 (by omega) (by omega)
  have a1 : wrap64 (0 + (([v] : List S33).length : Int)) = 1 := by rw [wr1 (by simp) (by simp)]; rfl
  have a2 : wrap64 ((0 : Int) + 1) = 1 := wr1 (by decide) (by decide)
  have a3 : wrap64 ((1 : Int) + 1) = 2 := wr1 (by decide) (by decide)
  have h0 : (0 : Int) < (([[v], l] : List (List S33)).length : Int) := by simp
  have h1 : (1 : Int) < (([[v], l] : List (List S33)).length : Int) := by simp
  have h2 : ¬ (2 : Int) < (([[v], l] : List (List S33)).length : Int) := by simp
  refine Ev.congr (f := fun k => api_Version_40.l0 k [[v], l] 0 [[v], l] 2 0) (fun k => rfl) ?_
  refine Ev.step (fun k => by simp only [api_Version_40.l0]; rw [if_pos (by decide), if_pos (by decide), if_pos h0, show rd_L4 [[v], l] 0 = [v] from rfl, a1, if_neg (by decide), a2]) ?_
  refine Ev.step (fun k => by simp only [api_Version_40.l0]; rw [if_pos (by decide), if_pos (by decide), if_pos h1, show rd_L4 [[v], l] 1 = l from rfl, e1, if_neg (by omega), a3]) ?_
  refine Ev.step (fun k => by simp only [api_Version_40.l0]; rw [if_neg (by decide), show api_Version_60.f (1 + (l.length : Int)) = some [] from if_pos ⟨by omega, by omega, by omega⟩, Option.bind_some]) ?_
  refine Ev.step (fun k => by simp only [api_Version_40.l1]; rw [if_pos h0, if_pos (by decide), if_pos h0, show rd_L4 [[v], l] 0 = [v] from rfl, if_pos (by simp), a2, List.nil_append]) ?_
  refine Ev.step (fun k => by simp only [api_Version_40.l1]; rw [if_pos h1, if_pos (by decide), if_pos h1, show rd_L4 [[v], l] 1 = l from rfl, if_pos (by simp; omega), a3, List.singleton_append]) ?_
  refine Ev.step (f := fun _ => some (v :: l)) (fun k => by simp only [api_Version_40.l1]; rw [if_neg h2]) (Ev.now _)
theorem put_ev (l : List S33) (v : S33) : Ev (fun k => version_Put.f k l v.f0 v.f1 v.f2) (more l v) := by
  unfold version_Put.f more
  rw [may_eq]
  simp only [Option.bind_some]
  have hj : ∀ b : Bool, Ev (fun k => version_Put.j0 k l b v.f0 v.f1 v.f2) (if b = true then ([], 150) else if l.length ≥ 1024 then ([], 3) else (v :: l, 0)) := by
    intro b
    cases b with
    | true => exact Ev.step (f := fun _ => some ([], 150)) (fun k => by simp only [version_Put.j0, if_true]) (Ev.now _)
    | false =>
      simp only [Bool.false_eq_true, if_false]
      by_cases h : l.length ≥ 1024
      · rw [if_pos h]
        exact Ev.step (f := fun _ => some ([], 3)) (fun k => by simp only [version_Put.j0, Bool.false_eq_true, if_false]; rw [if_pos (by omega)]) (Ev.now _)
      · rw [if_neg h]
        refine Ev.step (fun k => by simp only [version_Put.j0, Bool.false_eq_true, if_false]; rw [if_neg (by omega), eta33]) ?_
        refine Ev.bind (concat_ev v l (by omega)) ?_
        exact Ev.now _
  by_cases h1 : vmay v = true
  · simp only [if_pos h1]
    by_cases h2 : 0 < l.length
    · simp only [if_pos (show (l.length : Int) > 0 by omega), if_pos (show 0 < (l.length : Int) by omega), gt_eq l 0 h2]
      have := hj (decide (v.f0 ≤ (rd_T33 l 0).f0))
      have e0 : rd_T33 l 0 = l[0] := rd33 l 0 h2
      rw [e0] at this ⊢
      by_cases h3 : v.f0 ≤ l[0].f0
      · rw [decide_eq_true h3] at this ⊢
        rw [if_pos ⟨h2, h3⟩]
        exact this
      · rw [decide_eq_false h3] at this ⊢
        rw [if_neg (fun h => h3 h.2)]
        exact this
    · simp only [if_neg (show ¬ (l.length : Int) > 0 by omega)]
      rw [if_neg (fun h => h2 h.1)]
      exact hj false
  · simp only [if_neg h1]
    exact Ev.now _
theorem putR_ev (l : List S33) (v : S33) : Ev (fun k => cressetref15_Put.f k l v.f0 v.f1 v.f2) (more l v) := by
  unfold cressetref15_Put.f more
  rw [mayR_eq]
  simp only [Option.bind_some]
  have hj : ∀ b : Bool, Ev (fun k => cressetref15_Put.j0 k l b v.f0 v.f1 v.f2) (if b = true then ([], 150) else if l.length ≥ 1024 then ([], 3) else (v :: l, 0)) := by
    intro b
    cases b with
    | true => exact Ev.step (f := fun _ => some ([], 150)) (fun k => by simp only [cressetref15_Put.j0, if_true]) (Ev.now _)
    | false =>
      simp only [Bool.false_eq_true, if_false]
      by_cases h : l.length ≥ 1024
      · rw [if_pos h]
        exact Ev.step (f := fun _ => some ([], 3)) (fun k => by simp only [cressetref15_Put.j0, Bool.false_eq_true, if_false]; rw [if_pos (by omega)]) (Ev.now _)
      · rw [if_neg h]
        refine Ev.step (f := fun _ => some (v :: l, 0)) (fun k => ?_) (Ev.now _)
        simp only [cressetref15_Put.j0, Bool.false_eq_true, if_false]
        rw [if_neg (by omega), eta33, Option.bind_some, if_pos (by simp; omega), List.singleton_append]
  by_cases h1 : vmay v = true
  · simp only [if_pos h1]
    by_cases h2 : 0 < l.length
    · simp only [if_pos (show (l.length : Int) > 0 by omega), if_pos (show 0 < (l.length : Int) by omega), gt_eq l 0 h2]
      have := hj (decide (v.f0 ≤ (rd_T33 l 0).f0))
      have e0 : rd_T33 l 0 = l[0] := rd33 l 0 h2
      rw [e0] at this ⊢
      by_cases h3 : v.f0 ≤ l[0].f0
      · rw [decide_eq_true h3] at this ⊢
        rw [if_pos ⟨h2, h3⟩]
        exact this
      · rw [decide_eq_false h3] at this ⊢
        rw [if_neg (fun h => h3 h.2)]
        exact this
    · simp only [if_neg (show ¬ (l.length : Int) > 0 by omega)]
      rw [if_neg (fun h => h2 h.1)]
      exact hj false
  · simp only [if_neg h1]
    exact Ev.now _
end Go.Proofs.Ytpakolohhoegfaa.Lib

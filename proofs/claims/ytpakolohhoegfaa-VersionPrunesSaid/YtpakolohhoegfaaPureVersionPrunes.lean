/-
Pruned versions say the same from the mark on.
-/
import Derived.Test.YtpakolohhoegfaaBx8
import Derived.Test.YtpakolohhoegfaaLibC
namespace Go.Proofs.Ytpakolohhoegfaa.Pure
open Go.RowKit Go.Proofs.Ytpakolohhoegfaa.B Go.Proofs.YtpakolohhoegfaaW.PrintWords Go.Proofs.YtpakolohhoegfaaW.PrintLast Go.Proofs.Ytpakolohhoegfaa.Lib
set_option linter.unusedSimpArgs false
theorem mx_ge (a b : Int) : b ≤ mx a b := by unfold mx; split <;> omega
theorem VersionPrunes : cressetlaw15_VersionPrunes.Pure := by
  intro l mark ts hl _ _
  have hll : l.length ≤ 4398046511000 := by have := hl.2.1; omega
  have hn := prn_len mark l false
  have e : wrap64 (((prn mark false l).1.length : Int) + ((prn mark false l).2.length : Int)) = (l.length : Int) := by rw [wr1 (by omega) (by omega)]; omega
  have hend : Ev (fun k => cressetlaw15_VersionPrunes.j0 k l mark ts (prn mark false l).1 (prn mark false l).2 true) true := by
    refine Ev.step (fun k => by simp only [cressetlaw15_VersionPrunes.j0]; rw [if_pos trivial]) ?_
    refine Ev.bind live_ev ?_
    simp only [if_true, e, beq_self_eq_true]
    exact Ev.now _
  refine Ev.rounds (r := true) ?_
  unfold cressetlaw15_VersionPrunes.f
  refine Ev.bind (prune_ev l mark hll) ?_
  refine Ev.bind (checkR_ev l) ?_
  by_cases hg : chk l = 0
  · simp only [if_pos hg]
    refine Ev.bind live_ev ?_
    have hG := (chk_good l).1 hg
    have hK := good_sub hG (prn_sub mark l false)
    refine Ev.step (fun k => by simp only [cressetlaw15_VersionPrunes.j0]; rw [if_neg (by decide)]) ?_
    rw [value_eq l _ (by omega), value_eq _ _ (by have := hK.1; omega), value_prn mark _ (mx_ge ts mark) l hG.2.2]
    simp only [Option.bind_some]
    refine Ev.bind (prune_ev _ mark (by have := hK.1; omega)) ?_
    simp only [beq_self_eq_true, if_true, prn_again mark l false]
    refine Ev.bind (sameR_ev _ _ (by have := hK.1; omega)) ?_
    simp only [same_refl, if_true, List.length_nil, Int.natCast_zero, e]
    refine Ev.bind (check_ev _) ?_
    rw [(chk_good _).2 hK]
    exact Ev.now _
  · simp only [if_neg hg]
    exact hend
end Go.Proofs.Ytpakolohhoegfaa.Pure

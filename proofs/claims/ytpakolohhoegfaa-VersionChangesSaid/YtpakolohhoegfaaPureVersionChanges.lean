/-
One version more; what is pruned.
-/
import Derived.Test.YtpakolohhoegfaaBx13
import Derived.Test.YtpakolohhoegfaaLibD
namespace Go.Proofs.Ytpakolohhoegfaa.Pure
open Go.RowKit Go.Proofs.Ytpakolohhoegfaa.B Go.Proofs.YtpakolohhoegfaaW.PrintWords Go.Proofs.YtpakolohhoegfaaW.PrintLast Go.Proofs.Ytpakolohhoegfaa.Lib
set_option linter.unusedSimpArgs false
theorem more_len (l : List S33) (v : S33) : (more l v).1.length ≤ 1024 := by
  unfold more
  split
  · split
    · simp
    · split
      · simp
      · simp; omega
  · simp
theorem VersionChanges : cressetlaw15_VersionChanges.Pure := by
  intro l a b c mark hl _ _ _
  have hll : l.length ≤ 4398046511000 := by have := hl.2.1; omega
  have hn := prn_len mark l false
  have hm := more_len l ⟨a, b, c⟩
  refine Ev.rounds (r := true) ?_
  unfold cressetlaw15_VersionChanges.f
  refine Ev.bind (put_ev l ⟨a, b, c⟩) ?_
  refine Ev.bind (putR_ev l ⟨a, b, c⟩) ?_
  refine Ev.bind (prune_ev l mark hll) ?_
  refine Ev.bind (pruneR_ev l mark hll) ?_
  refine Ev.bind live_ev ?_
  simp only [if_true]
  refine Ev.bind (sameR_ev _ _ (by omega)) ?_
  simp only [same_refl, if_true]
  refine Ev.bind (sameR_ev _ _ (by omega)) ?_
  simp only [same_refl, if_true]
  refine Ev.bind (sameR_ev _ _ (by omega)) ?_
  rw [same_refl]
  exact Ev.now _
end Go.Proofs.Ytpakolohhoegfaa.Pure

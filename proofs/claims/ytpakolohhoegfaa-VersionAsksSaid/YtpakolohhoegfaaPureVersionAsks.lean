/-
Which versions may be, what a timestamp sees of any, which lists are the same.
-/
import Derived.Test.YtpakolohhoegfaaBx10
import Derived.Test.YtpakolohhoegfaaLibB
namespace Go.Proofs.Ytpakolohhoegfaa.Pure
open Go.RowKit Go.Proofs.Ytpakolohhoegfaa.B Go.Proofs.YtpakolohhoegfaaW.PrintWords Go.Proofs.YtpakolohhoegfaaW.PrintLast Go.Proofs.Ytpakolohhoegfaa.Lib
set_option linter.unusedSimpArgs false
theorem VersionAsks : cressetlaw15_VersionAsks.Pure := by
  intro l ts m hl _ hm
  have hll : l.length ≤ 9223372036854775000 := by have := hl.2.1; omega
  refine Ev.rounds (r := true) ?_
  unfold cressetlaw15_VersionAsks.f
  rw [at_eq l ts (by omega), value_eq l ts (by omega)]
  simp only [Option.bind_some]
  refine Ev.bind (atR_ev l ts hll) ?_
  refine Ev.bind (valueR_ev l ts hll) ?_
  refine Ev.bind live_ev ?_
  simp only [if_true]
  refine Ev.bind (check_ev l) ?_
  refine Ev.bind (checkR_ev l) ?_
  simp only [beq_self_eq_true, Bool.and_self, if_true]
  refine Ev.bind (same_ev l m hll) ?_
  refine Ev.bind (sameR_ev l m hll) ?_
  simp only [beq_self_eq_true, if_true]
  refine Ev.bind (same_ev l l hll) ?_
  rw [same_refl]
  exact Ev.now _
end Go.Proofs.Ytpakolohhoegfaa.Pure

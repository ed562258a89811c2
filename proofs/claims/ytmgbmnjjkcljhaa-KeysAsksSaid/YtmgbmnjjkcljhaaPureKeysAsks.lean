import Derived.Test.YtmgbmnjjkcljhaaBx10
import Derived.Test.YtmgbmnjjkcljhaaLibC
namespace Go.Proofs.Ytmgbmnjjkcljhaa.Pure
open Go.RowKit Go.Proofs.Ytmgbmnjjkcljhaa.B Go.Proofs.YtmgbmnjjkcljhaaW.PrintWords Go.Proofs.YtmgbmnjjkcljhaaW.PrintLast Go.Proofs.Ytmgbmnjjkcljhaa.Lib
set_option linter.unusedSimpArgs false
theorem KeysAsks : cressetlaw05_KeysAsks.Pure := by
  intro a b c d s ha hb hc hd hs
  refine Ev.rounds ?_
  unfold cressetlaw05_KeysAsks.f
  refine Ev.bind live_ev ?_
  simp only [if_true, in_ref, in_eq, empty_ref, empty_eq, Option.bind_some, beq_self_eq_true]
  refine Ev.bind (overlap_ev a b c d) ?_
  refine Ev.bind (overlap_ref_ev a b c d) ?_
  simp only [if_true, beq_self_eq_true, covers_ref, covers_eq, next_ref, next_eq s (by omega), keys_One.f, cressetref05_One.f, Option.bind_some, Bool.and_self]
  refine Ev.bind (prefix_ev s (by omega)) ?_
  refine Ev.bind (prefix_ref_ev s (by omega)) ?_
  simp only [beq_self_eq_true, Bool.and_self]
  exact Ev.now _
end Go.Proofs.Ytmgbmnjjkcljhaa.Pure

/-
What some ranges have in common, what any of them has, what is left without another one: the program's answers are the document's.
-/
import Derived.Test.YtmgbmnjjkcljhaaBx28
import Derived.Test.YtmgbmnjjkcljhaaLibV
namespace Go.Proofs.Ytmgbmnjjkcljhaa.Pure
open Go.RowKit Go.Proofs.Ytmgbmnjjkcljhaa.B Go.Proofs.YtmgbmnjjkcljhaaW.PrintWords Go.Proofs.YtmgbmnjjkcljhaaW.PrintLast Go.Proofs.Ytmgbmnjjkcljhaa.Lib
set_option linter.unusedSimpArgs false
theorem KeysJoins : cressetlaw05_KeysJoins.Pure := by
  intro l a b s _ _ _ _ hU
  have hb := bulk_len2 l
  have hl : l.length ≤ 500000 := by omega
  have hul := uni_len l
  have hml := minus_len l a b
  refine Ev.rounds (r := true) ?_
  unfold cressetlaw05_KeysJoins.f
  refine Ev.bind live_ev ?_
  simp only [if_true]
  refine Ev.bind (meet_ev l (by omega)) ?_
  refine Ev.bind (meet_ref_ev l (by omega)) ?_
  simp only [beq_self_eq_true, Bool.and_self, if_true]
  refine Ev.bind (uni_ev l (by omega)) ?_
  refine Ev.bind (uniR_ev l (by omega)) ?_
  refine Ev.bind (same_ev (uni l) (by omega)) ?_
  simp only [if_true, hits_eq l s (by omega), Option.bind_some]
  have hh := hitsR_loop l (by omega) s l.length 0 (by omega)
  rw [List.drop_zero] at hh
  refine Ev.bind (g := fun k => cressetref05_Hits.f k l s) hh ?_
  simp only [beq_self_eq_true, if_true]
  refine Ev.bind (minus_ev l (by omega) a b) ?_
  refine Ev.bind (minusR_ev l hl a b) ?_
  refine Ev.bind (same_ev (minus l a b) (by omega)) ?_
  exact Ev.now _
end Go.Proofs.Ytmgbmnjjkcljhaa.Pure

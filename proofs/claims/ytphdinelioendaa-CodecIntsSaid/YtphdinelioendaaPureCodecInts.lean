import Derived.Test.YtphdinelioendaaBx6
import Derived.Test.YtphdinelioendaaLibB
namespace Go.Proofs.Ytphdinelioendaa.Pure
open Go.RowKit Go.Proofs.Ytphdinelioendaa.B Go.Proofs.YtphdinelioendaaW.PrintWords Go.Proofs.YtphdinelioendaaW.PrintLast Go.Proofs.Ytphdinelioendaa.Lib

/-- ints' bytes, and what bytes begin with -/
theorem CodecInts : cressetlaw01_CodecInts.Pure := by
  intro n l hn hl
  have hn := i64_of hn
  have hb := Bytes.of hl.2.2
  have hk := kw_le hn
  refine Ev.rounds (r := true) ?_
  unfold cressetlaw01_CodecInts.f
  refine Ev.bind (refI_ev hn) (Ev.bind (int_ev l hb (by omega)) (Ev.bind (parse_ev l hb (by omega)) (Ev.bind live_ev ?_)))
  refine Ev.congr (f := _) (fun k => if_pos rfl) ?_
  refine Ev.bind (put_ev hn l (by omega)) (Ev.bind (clone_ev l (by omega)) ?_)
  refine Ev.congr (f := _) (fun k => if_pos (by rw [I_length]; omega)) ?_
  refine Ev.bind (eq_ev _) ?_
  refine Ev.congr (f := _) (fun k => if_pos rfl) ?_
  refine Ev.bind (width_ev hn) ?_
  rw [I_length]
  refine Ev.congr (f := fun _ => some true) (fun k => ?_) (Ev.now _)
  rw [if_pos (by omega), if_pos rfl, if_pos rfl, beq_self_eq_true]

end Go.Proofs.Ytphdinelioendaa.Pure

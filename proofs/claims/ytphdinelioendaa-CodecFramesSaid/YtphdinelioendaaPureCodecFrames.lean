import Derived.Test.YtphdinelioendaaBx17
import Derived.Test.YtphdinelioendaaLibE
namespace Go.Proofs.Ytphdinelioendaa.Pure
open Go.RowKit Go.Proofs.Ytphdinelioendaa.B Go.Proofs.YtphdinelioendaaW.PrintWords Go.Proofs.YtphdinelioendaaW.PrintLast Go.Proofs.Ytphdinelioendaa.Lib

/-- frames, and what bytes say as one -/
theorem CodecFrames : cressetlaw01_CodecFrames.Pure := by
  intro l hl
  have hb := Bytes.of hl.2.2
  refine Ev.rounds (r := true) ?_
  unfold cressetlaw01_CodecFrames.f
  refine Ev.bind (frame_ev l hb (by omega)) (Ev.bind (refframe_ev l hb (by omega)) (Ev.bind (unframe_ev l hb (by omega)) (Ev.bind (refunframe_ev l hb (by omega)) (Ev.bind live_ev ?_))))
  refine Ev.congr (f := _) (fun k => if_pos rfl) ?_
  refine Ev.bind (eq_ev _) ?_
  refine Ev.congr (f := _) (fun k => if_pos rfl) ?_
  refine Ev.congr (f := _) (fun k => if_pos rfl) ?_
  refine Ev.bind (eq_ev _) ?_
  refine Ev.congr (f := fun _ => some true) (fun k => ?_) (Ev.now _)
  rw [if_pos rfl, if_pos rfl, beq_self_eq_true]

end Go.Proofs.Ytphdinelioendaa.Pure

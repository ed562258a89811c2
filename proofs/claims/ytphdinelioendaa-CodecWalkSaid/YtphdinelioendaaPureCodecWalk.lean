import Derived.Test.YtphdinelioendaaBx9
import Derived.Test.YtphdinelioendaaLibP
namespace Go.Proofs.Ytphdinelioendaa.Pure
open Go.RowKit Go.Proofs.Ytphdinelioendaa.B Go.Proofs.YtphdinelioendaaW.PrintWords Go.Proofs.YtphdinelioendaaW.PrintLast Go.Proofs.Ytphdinelioendaa.Lib

/-- ints one behind the other -/
theorem CodecWalk : cressetlaw01_CodecWalk.Pure := by
  intro l stop hl hs
  have hb := Bytes.of hl.2.2
  have hw : ∀ s, Ev (fun k => cressetlaw01_walks.f k l s) true := by
    intro s
    unfold cressetlaw01_walks.f
    rw [if_pos ⟨hb, by omega⟩]
    exact Ev.now _
  refine Ev.rounds (r := true) ?_
  unfold cressetlaw01_CodecWalk.f
  refine Ev.bind live_ev ?_
  refine Ev.congr (f := _) (fun k => if_pos rfl) ?_
  refine Ev.bind (hw _) ?_
  refine Ev.congr (f := _) (fun k => if_pos rfl) ?_
  exact Ev.bind (hw _) (Ev.now _)

end Go.Proofs.Ytphdinelioendaa.Pure

import Derived.Test.YtphdinelioendaaBx11
import Derived.Test.YtphdinelioendaaLibF
namespace Go.Proofs.Ytphdinelioendaa.Pure
open Go.RowKit Go.Proofs.Ytphdinelioendaa.B Go.Proofs.YtphdinelioendaaW.PrintWords Go.Proofs.YtphdinelioendaaW.PrintLast Go.Proofs.Ytphdinelioendaa.Lib

/-- ints' bytes have their order, whatever stands behind them -/
theorem CodecOrder : cressetlaw01_CodecOrder.Pure := by
  intro a b s t ha hb hs ht
  have ha := i64_of ha
  have hb := i64_of hb
  have hsb := Bytes.of hs.2.2
  have htb := Bytes.of ht.2.2
  have ka := kw_le ha
  have kb := kw_le hb
  have cmpe : ∀ x y, Ev (fun _ => bytes_Compare.f x y) (Go.Lib.compareBytes (Go.Lib.bytesOf x) (Go.Lib.bytesOf y)) := fun x y => Ev.now _
  have e0 : Go.Lib.compareBytes (Go.Lib.bytesOf (I a)) (Go.Lib.bytesOf (I b)) = cm a b := by
    by_cases c : a = b
    · subst c
      rw [cmp_refl]
      unfold cm
      rw [if_neg (by omega), if_neg (by omega)]
    · have := cmp_ints ha hb [] [] (by intro z hz; simp at hz) (by intro z hz; simp at hz) c
      rwa [List.append_nil, List.append_nil] at this
  refine Ev.rounds (r := true) ?_
  unfold cressetlaw01_CodecOrder.f
  refine Ev.bind (put_ev ha [] (by simp)) (Ev.bind (put_ev hb [] (by simp)) (Ev.bind live_ev ?_))
  simp only [List.nil_append]
  refine Ev.congr (f := _) (fun k => if_pos trivial) ?_
  refine Ev.bind (cmpe _ _) (Ev.bind (cmpc_ev a b) ?_)
  rw [e0, bne_self_eq_false]
  refine Ev.step (fun k => by simp only [cressetlaw01_CodecOrder.j0]; rfl) ?_
  refine Ev.congr (f := _) (fun k => if_neg (by decide)) ?_
  by_cases c : a = b
  · exact Ev.congr (f := _) (fun k => if_pos c) (Ev.now _)
  · refine Ev.congr (f := _) (fun k => if_neg c) ?_
    refine Ev.congr (f := _) (fun k => if_pos (by rw [I_length]; omega)) ?_
    refine Ev.congr (f := _) (fun k => if_pos (by rw [I_length]; omega)) ?_
    refine Ev.bind (cmpe _ _) (Ev.bind (cmpc_ev a b) ?_)
    rw [cmp_ints ha hb s t hsb htb c, beq_self_eq_true]
    exact Ev.now _

end Go.Proofs.Ytphdinelioendaa.Pure

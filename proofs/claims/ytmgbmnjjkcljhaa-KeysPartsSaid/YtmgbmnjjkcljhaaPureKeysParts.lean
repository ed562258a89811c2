import Derived.Test.YtmgbmnjjkcljhaaBx3
import Derived.Test.YtmgbmnjjkcljhaaLibA
namespace Go.Proofs.Ytmgbmnjjkcljhaa.Pure
open Go.RowKit Go.Proofs.Ytmgbmnjjkcljhaa.B Go.Proofs.YtmgbmnjjkcljhaaW.PrintWords Go.Proofs.YtmgbmnjjkcljhaaW.PrintLast Go.Proofs.Ytmgbmnjjkcljhaa.Lib
set_option linter.unusedSimpArgs false
theorem KeysParts : cressetlaw05_KeysParts.Pure := by
  intro a b ha hb
  refine Ev.rounds ?_
  unfold cressetlaw05_KeysParts.f
  refine Ev.bind (sep_ev a b (by omega)) ?_
  refine Ev.bind (sep_ref_ev a b (by omega)) ?_
  refine Ev.bind live_ev ?_
  simp only [if_true, bne_self_eq_false, Bool.false_eq_true, if_false]
  by_cases h : (sep a b).2 = true
  · obtain ⟨m, hm, e, hlt⟩ := sep_some a b (b.size + 1) 0 (by omega) h
    have e' : (sep a b).1 = b.extract 0 m := e
    have hlt' : Op.bytesLess a.toList (b.extract 0 m).toList = true := hlt
    have hle : ¬ Op.bytesLess b.toList (b.extract 0 m).toList = true := by
      rw [ext_toList]
      have := bl_take b.toList m
      simpa using this
    rw [e']
    simp only [h, if_true, hlt', hle, if_false]
    have hsz := ext_size b m hm
    rw [hsz]
    simp only [if_pos (show (m : Int) ≤ b.size by omega), if_pos (show (0 : Int) ≤ m by omega), Int.toNat_natCast, beq_self_eq_true]
    exact Ev.now _
  · simp only [h, if_false]
    exact Ev.now _
end Go.Proofs.Ytmgbmnjjkcljhaa.Pure

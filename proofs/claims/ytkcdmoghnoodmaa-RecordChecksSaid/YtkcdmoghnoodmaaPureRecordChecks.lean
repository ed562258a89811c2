/-
What may be: the program's answers are the document's.
-/
import Derived.Test.YtkcdmoghnoodmaaBx56
import Derived.Test.YtkcdmoghnoodmaaLibC
namespace Go.Proofs.Ytkcdmoghnoodmaa.Pure
open Go.RowKit Go.Proofs.Ytkcdmoghnoodmaa.B Go.Proofs.YtkcdmoghnoodmaaW.PrintWords Go.Proofs.YtkcdmoghnoodmaaW.PrintLast Go.Proofs.Ytkcdmoghnoodmaa.Lib
set_option linter.unusedSimpArgs false
theorem checks_loop (l : List S33) (hl : l.length ≤ 9223372036854775000) (a : Int) (b : Int) (m : List S74) (c : Bool) (n0 n1 n2 n3 n4 n5 n6 n7 : Int) : ∀ (d n : Nat), n + d = l.length → Ev (fun k => cressetlaw03_RecordChecks.l0 k l (l.length : Int) (n : Int) a l b m c n0 n1 n2 n3 n4 n5 n6 n7) true
  | 0, n, h => by
    refine Ev.step (fun k => by simp only [cressetlaw03_RecordChecks.l0]; rw [if_neg (by omega)]) ?_
    refine Ev.bind live_ev ?_
    simp only [if_true]
    refine Ev.bind (checkCommit_ev a l) ?_
    refine Ev.bind (checkCommitR_ev a l) ?_
    simp only [if_true]
    refine Ev.bind (checkChunk_ev b m c) ?_
    refine Ev.bind (checkChunkR_ev b m c) ?_
    simp only [if_true, checkMaster_eq, Option.bind_some]
    refine Ev.bind (checkMasterR_ev n0 n1 n2 n3 n4 n5 n6 n7) ?_
    simp only [beq_self_eq_true]
    exact Ev.now _
  | d + 1, n, h => by
    have hn : n < l.length := by omega
    have e : wrap64 ((n : Int) + 1) = ((n + 1 : Nat) : Int) := by rw [wr1 (by omega) (by omega)]; omega
    have ih := checks_loop l hl a b m c n0 n1 n2 n3 n4 n5 n6 n7 d (n + 1) (by omega)
    refine Ev.step (fun k => by simp only [cressetlaw03_RecordChecks.l0]; rw [if_pos (by omega), if_pos (by omega), if_pos (by omega), rd33 l n hn]) ?_
    refine Ev.bind (checkWrite_ev l[n]) ?_
    simp only [checkWriteR_eq, key_eq, keyR_eq, val_eq, valR_eq, Option.bind_some, if_true, e]
    exact ih
theorem RecordChecks : cressetlaw03_RecordChecks.Pure := by
  intro a l b m c n0 n1 n2 n3 n4 n5 n6 n7 _ hl _ _ _ _ _ _ _ _ _ _
  refine Ev.rounds (r := true) ?_
  exact checks_loop l (by have := hl.2.1; omega) a b m c n0 n1 n2 n3 n4 n5 n6 n7 l.length 0 (by omega)
end Go.Proofs.Ytkcdmoghnoodmaa.Pure

/-
A caller that writes over a union and a difference has its own list as it was.
-/
import Derived.Test.YtmgbmnjjkcljhaaBx25
import Derived.Test.YtmgbmnjjkcljhaaLibM
namespace Go.Proofs.Ytmgbmnjjkcljhaa.Pure
open Go.RowKit Go.Proofs.Ytmgbmnjjkcljhaa.B Go.Proofs.YtmgbmnjjkcljhaaW.PrintWords Go.Proofs.YtmgbmnjjkcljhaaW.PrintLast Go.Proofs.Ytmgbmnjjkcljhaa.Lib
set_option linter.unusedSimpArgs false
theorem own_loop (l : List S27) (hl : l.length ≤ 9223372036854775000) : ∀ (d n : Nat), n + d = l.length → Ev (fun k => cressetref05_Same.l0 k l l (n : Int)) true
  | 0, n, h => by
    refine Ev.step (f := fun _ => some true) (fun k => ?_) (Ev.now _)
    simp only [cressetref05_Same.l0]
    rw [if_neg (by omega)]
  | d + 1, n, h => by
    have e : wrap64 ((n : Int) + 1) = ((n + 1 : Nat) : Int) := by rw [wr1 (by omega) (by omega)]; omega
    refine Ev.step (fun k => ?_) (own_loop l hl d (n + 1) (by omega))
    simp only [cressetref05_Same.l0]
    rw [if_pos (by omega), if_pos (by omega), if_pos (by omega), if_neg (by simp), e]
theorem own_same (l : List S27) (hl : l.length ≤ 9223372036854775000) : Ev (fun k => cressetref05_Same.f k l l) true := by
  refine Ev.congr (f := fun k => cressetref05_Same.l0 k l l 0) (fun k => ?_) (own_loop l hl l.length 0 (by omega))
  unfold cressetref05_Same.f
  rw [if_pos rfl]
theorem KeysOwn : cressetlaw05_KeysOwn.Pure := by
  intro l a b _ _ _ hU
  have hb := bulk_len l
  have hl : l.length ≤ 1048576 := by omega
  refine Ev.rounds (r := true) ?_
  unfold cressetlaw05_KeysOwn.f
  simp only [Option.bind_some, List.length_nil, Nat.zero_add, List.nil_append]
  simp only [if_pos (show l.length < 4398046511104 by omega)]
  refine Ev.bind (uni_ev l (by omega)) ?_
  refine Ev.bind (minus_ev l hl a b) ?_
  refine Ev.bind live_ev ?_
  simp only [if_true]
  refine Ev.bind (own_same l (by omega)) ?_
  exact Ev.now _
end Go.Proofs.Ytmgbmnjjkcljhaa.Pure

/-
A text is in what ranges have in common just if it is in each, in their union just if it is in any, in what is left just if it is in any and not in the one that was taken.
-/
import Derived.Test.YtmgbmnjjkcljhaaBx15
import Derived.Test.YtmgbmnjjkcljhaaLibM
namespace Go.Proofs.Ytmgbmnjjkcljhaa.Pure
open Go.RowKit Go.Proofs.Ytmgbmnjjkcljhaa.B Go.Proofs.YtmgbmnjjkcljhaaW.PrintWords Go.Proofs.YtmgbmnjjkcljhaaW.PrintLast Go.Proofs.Ytmgbmnjjkcljhaa.Lib
set_option linter.unusedSimpArgs false
theorem mem_loop (l : List S27) (hl : l.length ≤ 1048576) (a b s : ByteArray) : ∀ (d n : Nat), n + d = l.length → Ev (fun k => cressetlaw05_KeysMembers.l0 k l s ((l.take n).all (inR · s.toList)) ((l.take n).any (inR · s.toList)) l (l.length : Int) (n : Int) a b) true
  | 0, n, h => by
    rw [List.take_of_length_le (by omega)]
    refine Ev.step (fun k => by simp only [cressetlaw05_KeysMembers.l0]; rw [if_neg (by omega)]) ?_
    refine Ev.bind live_ev ?_
    simp only [if_true]
    refine Ev.bind (meet_ev l (by omega)) ?_
    simp only [in_eq, Option.bind_some, inn_meet]
    have e0 : (l.all (fun r => inn r.f0.toList r.f1.toList s.toList)) = l.all (inR · s.toList) := rfl
    rw [e0]
    simp only [beq_self_eq_true, if_true]
    refine Ev.bind (uni_ev l (by omega)) ?_
    have hu := (uni_spec l).2 s.toList
    have hul := uni_len l
    have hml := minus_len l a b
    simp only [hits_eq (uni l) s (by omega), Option.bind_some, hu, beq_self_eq_true, if_true]
    refine Ev.bind (minus_ev l hl a b) ?_
    have hm := (minus_spec l a b).2 s.toList
    simp only [hits_eq (minus l a b) s (by omega), hits_eq l s (by omega), Option.bind_some, hm]
    cases h1 : l.any (inR · s.toList) with
    | true => simp only [if_true, Bool.true_and, beq_self_eq_true]; exact Ev.now _
    | false => simp only [Bool.false_and, beq_self_eq_true, if_true, if_false]; exact Ev.now _
  | d + 1, n, h => by
    have hn : n < l.length := by omega
    have e : wrap64 ((n : Int) + 1) = ((n + 1 : Nat) : Int) := by rw [wr1 (by omega) (by omega)]; omega
    have ih := mem_loop l hl a b s d (n + 1) (by omega)
    rw [List.take_succ_eq_append_getElem hn, List.all_append, List.any_append] at ih
    refine Ev.step (fun k => by simp only [cressetlaw05_KeysMembers.l0]; rw [if_pos (by omega), if_pos (by omega), if_pos (by omega)]) ?_
    simp only [rd27 l n hn, in_eq, Option.bind_some, e]
    have e1 : inn l[n].f0.toList l[n].f1.toList s.toList = inR l[n] s.toList := rfl
    rw [e1]
    have e2 : [l[n]].all (inR · s.toList) = inR l[n] s.toList := by simp
    have e3 : [l[n]].any (inR · s.toList) = inR l[n] s.toList := by simp
    rw [e2, e3] at ih
    cases h1 : (l.take n).all (inR · s.toList) <;> cases h2 : (l.take n).any (inR · s.toList) <;> rw [h1, h2] at ih <;> simpa using ih
theorem KeysMembers : cressetlaw05_KeysMembers.Pure := by
  intro l a b s _ _ _ _ hU
  have hb := bulk_len l
  have := mem_loop l (by omega) a b s l.length 0 (by omega)
  simp only [List.take_zero, List.all_nil, List.any_nil] at this
  exact this.rounds
end Go.Proofs.Ytmgbmnjjkcljhaa.Pure

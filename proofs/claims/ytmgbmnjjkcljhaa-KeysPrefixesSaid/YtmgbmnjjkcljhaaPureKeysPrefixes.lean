import Derived.Test.YtmgbmnjjkcljhaaBx5
import Derived.Test.YtmgbmnjjkcljhaaLibA
namespace Go.Proofs.Ytmgbmnjjkcljhaa.Pure
open Go.RowKit Go.Proofs.Ytmgbmnjjkcljhaa.B Go.Proofs.YtmgbmnjjkcljhaaW.PrintWords Go.Proofs.YtmgbmnjjkcljhaaW.PrintLast Go.Proofs.Ytmgbmnjjkcljhaa.Lib
set_option linter.unusedSimpArgs false
theorem next_toList (s : ByteArray) : (s ++ (⟨#[0]⟩ : ByteArray)).toList = s.toList ++ [0] := by
  rw [app_toList]
  congr 1
  exact toList_eq _
theorem inn_one (x : List UInt8) : inn x (x ++ [0]) x = true := by
  have := bl_app_pos x (y := [0]) (by simp)
  simp [inn, bl_irrefl, this]
theorem inn_above (x : List UInt8) : inn x (x ++ [0]) (x ++ [0]) = false := by
  simp [inn, bl_irrefl]
theorem prefixes_ev (s key : ByteArray) (hs : s.size ≤ 140737488351232) (hk : key.size ≤ 140737488351232) (q : Bool) (hq : q = s.toList.isPrefixOf key.toList) : Ev (fun k => cressetlaw05_KeysPrefixes.j0 k s key q) true := by
  refine Ev.step (fun k => by simp only [cressetlaw05_KeysPrefixes.j0]; rfl) ?_
  refine Ev.bind (prefix_ev s (by omega)) ?_
  refine Ev.bind live_ev ?_
  have h1 : inn s.toList (upS s s.size).toList key.toList = q := by rw [upS_all, inn_up, hq]
  have h2 : inn s.toList (upS s s.size).toList s.toList = true := by rw [upS_all, inn_up]; simp
  have h3 : inn s.toList (upS s s.size).toList (s.toList ++ [0]) = true := by rw [upS_all, inn_up]; simp
  simp only [in_eq, next_eq s (by omega), next_eq key (by omega), Option.bind_some, h1, h2, h3, keys_One.f, next_toList, inn_one, inn_above, if_true, beq_self_eq_true, Bool.not_false]
  exact Ev.now _
theorem KeysPrefixes : cressetlaw05_KeysPrefixes.Pure := by
  intro s key hs hk
  refine Ev.rounds ?_
  unfold cressetlaw05_KeysPrefixes.f
  by_cases h : (key.size : Int) ≥ s.size
  · simp only [if_pos h, if_pos (show (0 : Int) ≤ s.size by omega), if_pos (show (s.size : Int) ≤ key.size by omega), Int.toNat_natCast]
    refine prefixes_ev s key hs hk _ ?_
    rw [ext_toList, Bool.eq_iff_iff, beq_iff_eq, List.isPrefixOf_iff_prefix, List.prefix_iff_eq_take, len_toList]
    exact ⟨fun e => e.symm, fun e => e.symm⟩
  · simp only [if_neg h]
    refine prefixes_ev s key hs hk _ ?_
    cases e : s.toList.isPrefixOf key.toList with
    | false => rfl
    | true =>
      have := (List.isPrefixOf_iff_prefix.1 e).length_le
      rw [len_toList, len_toList] at this
      omega
end Go.Proofs.Ytmgbmnjjkcljhaa.Pure

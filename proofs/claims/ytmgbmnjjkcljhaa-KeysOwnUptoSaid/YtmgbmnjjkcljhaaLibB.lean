import Derived.Test.YtmgbmnjjkcljhaaBx10
import Derived.Test.YtmgbmnjjkcljhaaBx11
import Derived.Test.YtmgbmnjjkcljhaaLibA
namespace Go.Proofs.Ytmgbmnjjkcljhaa.Lib
open Go.RowKit Go.Proofs.Ytmgbmnjjkcljhaa.B Go.Proofs.YtmgbmnjjkcljhaaW.PrintWords Go.Proofs.YtmgbmnjjkcljhaaW.PrintLast
set_option linter.unusedVariables false
set_option linter.unusedSimpArgs false
/-- a range: from Low on, below High (nothing: no end) -/
abbrev Rg := ByteArray × ByteArray
def emp (lo hi : List UInt8) : Bool := !hi.isEmpty && !(bl lo hi)
theorem empty_eq (lo hi : ByteArray) : keys_Empty.f lo hi = some (emp lo.toList hi.toList) := by
  unfold keys_Empty.f emp
  by_cases h : hi.toList = []
  · simp [h]
  · simp [h]
/-- the greater text; the lesser end -/
def hi2 (x y : ByteArray) : ByteArray := if bl x.toList y.toList = true then y else x
def lo2 (x y : ByteArray) : ByteArray := if y.toList = [] then x else if x.toList = [] then y else if bl y.toList x.toList = true then y else x
def meet1 (m : Rg) (r : S27) : Rg := (hi2 m.1 r.f0, lo2 m.2 r.f1)
def meetOf (l : List S27) : Rg := l.foldl meet1 (⟨#[]⟩, ⟨#[]⟩)
theorem rd27 (l : List S27) (n : Nat) (h : n < l.length) : rd_T27 l (n : Int) = l[n] := by
  unfold rd_T27
  simp [List.getD_eq_getElem?_getD, List.getElem?_eq_getElem h]
theorem meet_loop (l : List S27) (hl : l.length ≤ 9223372036854775800) : ∀ (d n : Nat) (m : Rg), n + d = l.length → Ev (fun k => keys_Meet.l0 k l (l.length : Int) (n : Int) m.1 m.2) ((l.drop n).foldl meet1 m)
  | 0, n, m, h => by
    rw [List.drop_of_length_le (by omega)]
    refine Ev.step (f := fun _ => some (m.1, m.2)) (fun k => ?_) (Ev.now _)
    simp only [keys_Meet.l0]
    rw [if_neg (by omega)]
  | d + 1, n, m, h => by
    have hn : n < l.length := by omega
    have ih := meet_loop l hl d (n + 1) (meet1 m l[n]) (by omega)
    rw [List.drop_eq_getElem_cons hn, List.foldl_cons]
    refine Ev.step (f := fun k => keys_Meet.l0 k l (l.length : Int) ((n + 1 : Nat) : Int) (meet1 m l[n]).1 (meet1 m l[n]).2) (fun k => ?_) ih
    simp only [keys_Meet.l0]
    rw [if_pos (by omega), if_pos (by omega), if_pos (by omega), rd27 l n hn, wr1 (by omega) (by omega)]
    unfold meet1 hi2 lo2
    have e : ((n + 1 : Nat) : Int) = (n : Int) + 1 := by omega
    simp only [e]
    by_cases h1 : Op.bytesLess m.1.toList l[n].f0.toList = true
    all_goals by_cases h2 : l[n].f1.toList = []
    all_goals by_cases h3 : m.2.toList = []
    all_goals by_cases h4 : Op.bytesLess l[n].f1.toList m.2.toList = true
    all_goals simp [h1, h2, h3, h4]
theorem meet_ev (l : List S27) (hl : l.length ≤ 9223372036854775800) : Ev (fun k => keys_Meet.f k l) (meetOf l) := by
  have := meet_loop l hl l.length 0 (⟨#[]⟩, ⟨#[]⟩) (by omega)
  simpa [keys_Meet.f, meetOf] using this
/-- in what both have: in each -/
theorem inn_meet1 (m : Rg) (r : S27) (s : List UInt8) : inn (meet1 m r).1.toList (meet1 m r).2.toList s = (inn m.1.toList m.2.toList s && inn r.f0.toList r.f1.toList s) := by
  have h1 : bl s (hi2 m.1 r.f0).toList = (bl s m.1.toList || bl s r.f0.toList) := by
    unfold hi2
    by_cases h : bl m.1.toList r.f0.toList = true
    · rw [if_pos h]
      cases h2 : bl s m.1.toList with
      | false => simp
      | true => simp [bl_trans h2 h]
    · rw [if_neg h]
      cases h2 : bl s r.f0.toList with
      | false => simp
      | true => simp [bl_lt_le h2 (by simpa using h)]
  have h2 : ((lo2 m.2 r.f1).toList.isEmpty || bl s (lo2 m.2 r.f1).toList) = ((m.2.toList.isEmpty || bl s m.2.toList) && (r.f1.toList.isEmpty || bl s r.f1.toList)) := by
    unfold lo2
    by_cases h : r.f1.toList = []
    · rw [if_pos h]
      simp [h]
    · rw [if_neg h]
      have hf : r.f1.toList.isEmpty = false := by simpa using h
      by_cases h3 : m.2.toList = []
      · rw [if_pos h3]
        simp [h3]
      · rw [if_neg h3]
        have hf2 : m.2.toList.isEmpty = false := by simpa using h3
        by_cases h4 : bl r.f1.toList m.2.toList = true
        · rw [if_pos h4, hf, hf2]
          simp only [Bool.false_or]
          cases h5 : bl s r.f1.toList with
          | false => simp
          | true => simp [bl_trans h5 h4]
        · rw [if_neg h4, hf, hf2]
          simp only [Bool.false_or]
          cases h5 : bl s m.2.toList with
          | false => simp
          | true => simp [bl_lt_le h5 (by simpa using h4)]
  unfold inn
  show (!(bl s (hi2 m.1 r.f0).toList) && ((lo2 m.2 r.f1).toList.isEmpty || bl s (lo2 m.2 r.f1).toList)) = _
  rw [h1, h2]
  cases bl s m.1.toList <;> cases bl s r.f0.toList <;> cases (m.2.toList.isEmpty || bl s m.2.toList) <;> simp
theorem inn_fold (s : List UInt8) : ∀ (l : List S27) (m : Rg), inn (l.foldl meet1 m).1.toList (l.foldl meet1 m).2.toList s = (inn m.1.toList m.2.toList s && l.all (fun r => inn r.f0.toList r.f1.toList s))
  | [], m => by simp
  | r :: l, m => by
    rw [List.foldl_cons, inn_fold s l, inn_meet1]
    simp [Bool.and_assoc]
theorem inn_all (s : List UInt8) : inn (⟨#[]⟩ : ByteArray).toList (⟨#[]⟩ : ByteArray).toList s = true := by
  have : (⟨#[]⟩ : ByteArray).toList = [] := toList_eq _
  rw [this]
  simp [inn, bl_nil]
theorem inn_meet (l : List S27) (s : List UInt8) : inn (meetOf l).1.toList (meetOf l).2.toList s = l.all (fun r => inn r.f0.toList r.f1.toList s) := by
  rw [meetOf, inn_fold, inn_all, Bool.true_and]
/-- a range is empty just if nothing is in it -/
theorem emp_inn {lo hi s : List UInt8} (h : inn lo hi s = true) : emp lo hi = false := by
  unfold inn at h
  unfold emp
  simp only [Bool.and_eq_true, Bool.not_eq_true', Bool.or_eq_true] at h
  obtain ⟨h1, h2⟩ := h
  rcases h2 with h2 | h2
  · simp [h2]
  · simp [bl_le_lt h1 h2]
theorem inn_low {lo hi : List UInt8} (h : emp lo hi = false) : inn lo hi lo = true := by
  unfold emp at h
  unfold inn
  cases h2 : hi.isEmpty with
  | true => simp [bl_irrefl]
  | false =>
    rw [h2] at h
    simp at h
    simp [bl_irrefl, h]
theorem emp_iff (lo hi : List UInt8) : emp lo hi = true ↔ ∀ s, inn lo hi s = false := by
  constructor
  · intro h s
    cases h2 : inn lo hi s with
    | false => rfl
    | true => rw [emp_inn h2] at h; cases h
  · intro h
    cases h2 : emp lo hi with
    | true => rfl
    | false => exact absurd (h lo) (by rw [inn_low h2]; simp)
end Go.Proofs.Ytmgbmnjjkcljhaa.Lib

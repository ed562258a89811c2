import Derived.Test.YtmgbmnjjkcljhaaBx6
import Derived.Test.YtmgbmnjjkcljhaaLibA
namespace Go.Proofs.Ytmgbmnjjkcljhaa.Lib
open Go.RowKit Go.Proofs.Ytmgbmnjjkcljhaa.B Go.Proofs.YtmgbmnjjkcljhaaW.PrintWords Go.Proofs.YtmgbmnjjkcljhaaW.PrintLast
set_option linter.unusedVariables false
set_option linter.unusedSimpArgs false
/-- a range: from Low on, below High (nothing: no end) -/
abbrev Rg := ByteArray × ByteArray
def emp (lo hi : List UInt8) : Bool := !hi.isEmpty && !(bl lo hi)
theorem empty_eq (lo hi : ByteArray) : keys_Empty.f lo hi = some (emp lo.toList hi.toList) := by
  unfold keys_Empty.f emp
  by_cases h : hi.toList = []
  · simp [h]
  · simp [h]
def cov (a b c d : List UInt8) : Bool := emp c d || (!(bl c a) && (b.isEmpty || (!d.isEmpty && !(bl b d))))
theorem covers_eq (a b c d : ByteArray) : keys_Covers.f a b c d = some (cov a.toList b.toList c.toList d.toList) := by
  unfold keys_Covers.f cov
  rw [empty_eq]
  simp only [Option.bind_some]
  generalize a.toList = A
  generalize b.toList = B
  generalize c.toList = C
  generalize d.toList = D
  by_cases h : emp C D = true
  · simp [h]
  · by_cases h1 : Op.bytesLess C A = true
    · simp [h, h1]
    · cases B with
      | nil => simp [h, h1]
      | cons x B => cases D with
        | nil => simp [emp, h1]
        | cons y D => simp [h, h1, bl]
/-- the greater text; the lesser end -/
def hi2 (x y : ByteArray) : ByteArray := if bl x.toList y.toList = true then y else x
def lo2 (x y : ByteArray) : ByteArray := if y.toList = [] then x else if x.toList = [] then y else if bl y.toList x.toList = true then y else x
def meet1 (m : Rg) (r : S27) : Rg := (hi2 m.1 r.f0, lo2 m.2 r.f1)
def meetOf (l : List S27) : Rg := l.foldl meet1 (⟨#[]⟩, ⟨#[]⟩)
theorem rd27 (l : List S27) (n : Nat) (h : n < l.length) : rd_T27 l (n : Int) = l[n] := by
  unfold rd_T27
  simp [List.getD_eq_getElem?_getD, List.getElem?_eq_getElem h]
theorem meet_loop (l : List S27) (hl : l.length ≤ 9223372036854775800) : ∀ (d n : Nat) (m : Rg), n + d = l.length → Ev (fun k => keys_Meet.l0 k l (l.length : Int) (n : Int) m.1 m.2) ((l.drop n).foldl meet1 m)
  | 0, n, m, h => by
    rw [List.drop_of_length_le (by omega)]
    refine Ev.step (f := fun _ => some (m.1, m.2)) (fun k => ?_) (Ev.now _)
    simp only [keys_Meet.l0]
    rw [if_neg (by omega)]
  | d + 1, n, m, h => by
    have hn : n < l.length := by omega
    have ih := meet_loop l hl d (n + 1) (meet1 m l[n]) (by omega)
    rw [List.drop_eq_getElem_cons hn, List.foldl_cons]
    refine Ev.step (f := fun k => keys_Meet.l0 k l (l.length : Int) ((n + 1 : Nat) : Int) (meet1 m l[n]).1 (meet1 m l[n]).2) (fun k => ?_) ih
    simp only [keys_Meet.l0]
    rw [if_pos (by omega), if_pos (by omega), if_pos (by omega), rd27 l n hn, wr1 (by omega) (by omega)]
    unfold meet1 hi2 lo2
    have e : ((n + 1 : Nat) : Int) = (n : Int) + 1 := by omega
    simp only [e]
    by_cases h1 : Op.bytesLess m.1.toList l[n].f0.toList = true
    all_goals by_cases h2 : l[n].f1.toList = []
    all_goals by_cases h3 : m.2.toList = []
    all_goals by_cases h4 : Op.bytesLess l[n].f1.toList m.2.toList = true
    all_goals simp [h1, h2, h3, h4]
theorem meet_ev (l : List S27) (hl : l.length ≤ 9223372036854775800) : Ev (fun k => keys_Meet.f k l) (meetOf l) := by
  have := meet_loop l hl l.length 0 (⟨#[]⟩, ⟨#[]⟩) (by omega)
  simpa [keys_Meet.f, meetOf] using this
def ovl (a b c d : ByteArray) : Bool := !(emp (meetOf [⟨a, b⟩, ⟨c, d⟩]).1.toList (meetOf [⟨a, b⟩, ⟨c, d⟩]).2.toList)
theorem overlap_ev (a b c d : ByteArray) : Ev (fun k => keys_Overlap.f k a b c d) (ovl a b c d) := by
  unfold keys_Overlap.f ovl
  refine Ev.bind (meet_ev _ (by simp)) ?_
  simp only [empty_eq, Option.bind_some]
  exact Ev.now _
/-- in what both have: in each -/
theorem inn_meet1 (m : Rg) (r : S27) (s : List UInt8) : inn (meet1 m r).1.toList (meet1 m r).2.toList s = (inn m.1.toList m.2.toList s && inn r.f0.toList r.f1.toList s) := by
  have h1 : bl s (hi2 m.1 r.f0).toList = (bl s m.1.toList || bl s r.f0.toList) := by
    unfold hi2
    by_cases h : bl m.1.toList r.f0.toList = true
    · rw [if_pos h]
      cases h2 : bl s m.1.toList with
      | false => simp
      | true => simp [bl_trans h2 h]
    · rw [if_neg h]
      cases h2 : bl s r.f0.toList with
      | false => simp
      | true => simp [bl_lt_le h2 (by simpa using h)]
  have h2 : ((lo2 m.2 r.f1).toList.isEmpty || bl s (lo2 m.2 r.f1).toList) = ((m.2.toList.isEmpty || bl s m.2.toList) && (r.f1.toList.isEmpty || bl s r.f1.toList)) := by
    unfold lo2
    by_cases h : r.f1.toList = []
    · rw [if_pos h]
      simp [h]
    · rw [if_neg h]
      have hf : r.f1.toList.isEmpty = false := by simpa using h
      by_cases h3 : m.2.toList = []
      · rw [if_pos h3]
        simp [h3]
      · rw [if_neg h3]
        have hf2 : m.2.toList.isEmpty = false := by simpa using h3
        by_cases h4 : bl r.f1.toList m.2.toList = true
        · rw [if_pos h4, hf, hf2]
          simp only [Bool.false_or]
          cases h5 : bl s r.f1.toList with
          | false => simp
          | true => simp [bl_trans h5 h4]
        · rw [if_neg h4, hf, hf2]
          simp only [Bool.false_or]
          cases h5 : bl s m.2.toList with
          | false => simp
          | true => simp [bl_lt_le h5 (by simpa using h4)]
  unfold inn
  show (!(bl s (hi2 m.1 r.f0).toList) && ((lo2 m.2 r.f1).toList.isEmpty || bl s (lo2 m.2 r.f1).toList)) = _
  rw [h1, h2]
  cases bl s m.1.toList <;> cases bl s r.f0.toList <;> cases (m.2.toList.isEmpty || bl s m.2.toList) <;> simp
theorem inn_fold (s : List UInt8) : ∀ (l : List S27) (m : Rg), inn (l.foldl meet1 m).1.toList (l.foldl meet1 m).2.toList s = (inn m.1.toList m.2.toList s && l.all (fun r => inn r.f0.toList r.f1.toList s))
  | [], m => by simp
  | r :: l, m => by
    rw [List.foldl_cons, inn_fold s l, inn_meet1]
    simp [Bool.and_assoc]
theorem inn_all (s : List UInt8) : inn (⟨#[]⟩ : ByteArray).toList (⟨#[]⟩ : ByteArray).toList s = true := by
  have : (⟨#[]⟩ : ByteArray).toList = [] := toList_eq _
  rw [this]
  simp [inn, bl_nil]
theorem inn_meet (l : List S27) (s : List UInt8) : inn (meetOf l).1.toList (meetOf l).2.toList s = l.all (fun r => inn r.f0.toList r.f1.toList s) := by
  rw [meetOf, inn_fold, inn_all, Bool.true_and]
/-- a range is empty just if nothing is in it -/
theorem emp_inn {lo hi s : List UInt8} (h : inn lo hi s = true) : emp lo hi = false := by
  unfold inn at h
  unfold emp
  simp only [Bool.and_eq_true, Bool.not_eq_true', Bool.or_eq_true] at h
  obtain ⟨h1, h2⟩ := h
  rcases h2 with h2 | h2
  · simp [h2]
  · simp [bl_le_lt h1 h2]
theorem inn_low {lo hi : List UInt8} (h : emp lo hi = false) : inn lo hi lo = true := by
  unfold emp at h
  unfold inn
  cases h2 : hi.isEmpty with
  | true => simp [bl_irrefl]
  | false =>
    rw [h2] at h
    simp at h
    simp [bl_irrefl, h]
theorem emp_iff (lo hi : List UInt8) : emp lo hi = true ↔ ∀ s, inn lo hi s = false := by
  constructor
  · intro h s
    cases h2 : inn lo hi s with
    | false => rfl
    | true => rw [emp_inn h2] at h; cases h
  · intro h
    cases h2 : emp lo hi with
    | true => rfl
    | false => exact absurd (h lo) (by rw [inn_low h2]; simp)
/-- one range covers another one just if it has all of it -/
theorem cov_iff (a b c d : List UInt8) : cov a b c d = true ↔ ∀ s, inn c d s = true → inn a b s = true := by
  constructor
  · intro h s hs
    unfold cov at h
    rw [emp_inn hs] at h
    simp only [Bool.false_or, Bool.and_eq_true, Bool.not_eq_true', Bool.or_eq_true] at h
    obtain ⟨h1, h2⟩ := h
    unfold inn at hs ⊢
    simp only [Bool.and_eq_true, Bool.not_eq_true', Bool.or_eq_true] at hs ⊢
    refine ⟨bl_le_trans h1 hs.1, ?_⟩
    rcases h2 with h2 | ⟨h2, h3⟩
    · exact .inl h2
    · rcases hs.2 with h4 | h4
      · rw [h4] at h2; cases h2
      · exact .inr (bl_lt_le h4 h3)
  · intro h
    cases h2 : emp c d with
    | true => simp [cov, h2]
    | false =>
      have h3 := h c (inn_low h2)
      have h1 : bl c a = false := by
        unfold inn at h3
        cases e : bl c a with
        | false => rfl
        | true => rw [e] at h3; simp at h3
      simp only [cov, h2, h1, Bool.false_or, Bool.not_false, Bool.true_and, Bool.or_eq_true, Bool.and_eq_true, Bool.not_eq_true']
      cases hb : b.isEmpty with
      | true => simp
      | false =>
        right
        have key : ∀ s, bl s c = false → (d.isEmpty || bl s d) = true → bl s b = true := fun s hs1 hs2 => by
          have := h s (by unfold inn; rw [hs1, hs2]; rfl)
          unfold inn at this
          rw [hb] at this
          simp at this
          exact this.2
        cases hd : d.isEmpty with
        | true =>
          exfalso
          cases hcb : bl c b with
          | false => have := key c (bl_irrefl c) (by simp [hd]); rw [hcb] at this; cases this
          | true =>
            have := key b (bl_not hcb) (by simp [hd])
            rw [bl_irrefl] at this
            cases this
        | false =>
          refine ⟨rfl, ?_⟩
          cases hbd : bl b d with
          | false => rfl
          | true =>
            exfalso
            cases hcb : bl b c with
            | false =>
              have := key b hcb (by simp [hbd])
              rw [bl_irrefl] at this
              cases this
            | true =>
              have hcd : bl c d = true := by
                unfold emp at h2
                rw [hd] at h2
                simpa using h2
              have := key c (bl_irrefl c) (by simp [hcd])
              rw [bl_not hcb] at this
              cases this
theorem ovl_comm (a b c d : ByteArray) : ovl a b c d = ovl c d a b := by
  have h : ∀ a b c d : ByteArray, emp (meetOf [⟨a, b⟩, ⟨c, d⟩]).1.toList (meetOf [⟨a, b⟩, ⟨c, d⟩]).2.toList = true → emp (meetOf [⟨c, d⟩, ⟨a, b⟩]).1.toList (meetOf [⟨c, d⟩, ⟨a, b⟩]).2.toList = true := by
    intro a b c d h
    rw [emp_iff] at h ⊢
    intro s
    have := h s
    rw [inn_meet] at this ⊢
    simp only [List.all_cons, List.all_nil, Bool.and_true] at this ⊢
    rw [Bool.and_comm]
    exact this
  unfold ovl
  congr 1
  rw [Bool.eq_iff_iff]
  exact ⟨h a b c d, h c d a b⟩
theorem ovl_not {a b c d : ByteArray} (h : ovl a b c d = false) (s : List UInt8) : (inn a.toList b.toList s && inn c.toList d.toList s) = false := by
  unfold ovl at h
  have h1 : emp (meetOf [⟨a, b⟩, ⟨c, d⟩]).1.toList (meetOf [⟨a, b⟩, ⟨c, d⟩]).2.toList = true := by simpa using h
  have := (emp_iff _ _).1 h1 s
  rw [inn_meet] at this
  simpa using this
end Go.Proofs.Ytmgbmnjjkcljhaa.Lib

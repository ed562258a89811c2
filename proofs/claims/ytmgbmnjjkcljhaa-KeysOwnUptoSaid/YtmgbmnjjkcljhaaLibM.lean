/-
What some ranges have and one has not: the program's Minus, as a list; what is hit.
-/
import Derived.Test.YtmgbmnjjkcljhaaBx27
import Derived.Test.YtmgbmnjjkcljhaaLibU
namespace Go.Proofs.Ytmgbmnjjkcljhaa.Lib
open Go.RowKit Go.Proofs.Ytmgbmnjjkcljhaa.B Go.Proofs.YtmgbmnjjkcljhaaW.PrintWords Go.Proofs.YtmgbmnjjkcljhaaW.PrintLast
set_option linter.unusedVariables false
set_option linter.unusedSimpArgs false
def cut2 (x y : S27) : S27 := ⟨(meetOf [x, y]).1, (meetOf [x, y]).2⟩
theorem cut2_in (x y : S27) (s : List UInt8) : inR (cut2 x y) s = (inR x s && inR y s) := by
  show inn (meetOf [x, y]).1.toList (meetOf [x, y]).2.toList s = _
  rw [inn_meet]
  simp [inR, lo, hi]
def mn1 (a b : ByteArray) (x : S27) : List S27 := (if a.toList = [] then [] else [cut2 x ⟨⟨#[]⟩, a⟩]) ++ (if b.toList = [] then [] else [cut2 x ⟨b, ⟨#[]⟩⟩])
theorem nil_list : (⟨#[]⟩ : ByteArray).toList = [] := lit_toList []
theorem mn1_any (a b : ByteArray) (x : S27) (s : List UInt8) : (mn1 a b x).any (inR · s) = (inR x s && !(inn a.toList b.toList s)) := by
  have h1 : inR (cut2 x ⟨⟨#[]⟩, a⟩) s = (inR x s && (a.toList.isEmpty || bl s a.toList)) := by
    rw [cut2_in]
    congr 1
    unfold inR lo hi inn
    simp only [nil_list, bl_nil]
    simp
  have h2 : inR (cut2 x ⟨b, ⟨#[]⟩⟩) s = (inR x s && !(bl s b.toList)) := by
    rw [cut2_in]
    congr 1
    unfold inR lo hi inn
    simp only [nil_list]
    simp
  unfold mn1
  rw [List.any_append]
  by_cases ha : a.toList = []
  · rw [if_pos ha]
    by_cases hb : b.toList = []
    · rw [if_pos hb, ha, hb]
      simp [inn, bl_nil]
    · rw [if_neg hb]
      simp only [List.any_nil, List.any_cons, Bool.or_false, Bool.false_or, h2]
      rw [ha]
      unfold inn
      rw [bl_nil]
      cases h : b.toList with
      | nil => exact absurd h hb
      | cons _ _ => simp
  · rw [if_neg ha]
    have hae : a.toList.isEmpty = false := by cases h : a.toList with
      | nil => exact absurd h ha
      | cons _ _ => rfl
    by_cases hb : b.toList = []
    · rw [if_pos hb]
      simp only [List.any_nil, List.any_cons, Bool.or_false, h1, hae, Bool.false_or]
      rw [hb]
      unfold inn
      simp
    · rw [if_neg hb]
      have hbe : b.toList.isEmpty = false := by cases h : b.toList with
        | nil => exact absurd h hb
        | cons _ _ => rfl
      simp only [List.any_nil, List.any_cons, Bool.or_false, h1, h2, hae, Bool.false_or]
      unfold inn
      rw [hbe]
      cases inR x s <;> cases bl s a.toList <;> cases bl s b.toList <;> rfl
def mns (l : List S27) (a b : ByteArray) : List S27 := l.flatMap (mn1 a b)
theorem mns_any (a b : ByteArray) (s : List UInt8) : ∀ l : List S27, (mns l a b).any (inR · s) = (l.any (inR · s) && !(inn a.toList b.toList s))
  | [] => rfl
  | x :: l => by
    have ih := mns_any a b s l
    unfold mns at ih ⊢
    rw [List.flatMap_cons, List.any_append, ih, mn1_any, List.any_cons]
    cases inR x s <;> cases l.any (inR · s) <;> simp
theorem mn1_len (a b : ByteArray) (x : S27) : (mn1 a b x).length ≤ 2 := by
  unfold mn1
  rw [List.length_append]
  have h1 : (if a.toList = [] then ([] : List S27) else [cut2 x ⟨⟨#[]⟩, a⟩]).length ≤ 1 := by split <;> simp
  have h2 : (if b.toList = [] then ([] : List S27) else [cut2 x ⟨b, ⟨#[]⟩⟩]).length ≤ 1 := by split <;> simp
  omega
theorem mns_len (a b : ByteArray) : ∀ l : List S27, (mns l a b).length ≤ 2 * l.length
  | [] => by simp [mns]
  | x :: l => by
    have ih := mns_len a b l
    have h := mn1_len a b x
    unfold mns at ih ⊢
    rw [List.flatMap_cons, List.length_append, List.length_cons]
    omega
def minus (l : List S27) (a b : ByteArray) : List S27 := if emp a.toList b.toList = true then uni l else uni (mns l a b)
theorem minus_spec (l : List S27) (a b : ByteArray) : Canon (minus l a b) ∧ ∀ s, (minus l a b).any (inR · s) = (l.any (inR · s) && !(inn a.toList b.toList s)) := by
  unfold minus
  split
  · rename_i h
    obtain ⟨h1, h2⟩ := uni_spec l
    refine ⟨h1, fun s => ?_⟩
    rw [h2, (emp_iff _ _).1 h s]
    simp
  · obtain ⟨h1, h2⟩ := uni_spec (mns l a b)
    exact ⟨h1, fun s => by rw [h2, mns_any]⟩
theorem minus_loop (l : List S27) (hl : l.length ≤ 1048576) (a b : ByteArray) : ∀ (d n : Nat) (out : List S27), n + d = l.length → out.length ≤ 2 * n → Ev (fun k => keys_Minus.l0 k out l (l.length : Int) (n : Int) a b) (uni (out ++ mns (l.drop n) a b))
  | 0, n, out, h, ho => by
    rw [List.drop_of_length_le (by omega)]
    refine Ev.step (f := fun k => (keys_Union.f k out).bind fun t => some t) (fun k => ?_) ?_
    · simp only [keys_Minus.l0]
      rw [if_neg (by omega)]
    · refine Ev.bind (uni_ev out (by omega)) ?_
      simp only [mns, List.flatMap_nil, List.append_nil]
      exact Ev.now _
  | d + 1, n, out, h, ho => by
    have hn : n < l.length := by omega
    have e : wrap64 ((n : Int) + 1) = ((n + 1 : Nat) : Int) := by rw [wr1 (by omega) (by omega)]; omega
    have hm := mn1_len a b l[n]
    have ih := minus_loop l hl a b d (n + 1) (out ++ mn1 a b l[n]) (by omega) (by rw [List.length_append]; omega)
    have e2 : out ++ mns (l.drop n) a b = out ++ mn1 a b l[n] ++ mns (l.drop (n + 1)) a b := by
      rw [List.drop_eq_getElem_cons hn]
      simp only [mns, List.flatMap_cons, List.append_assoc]
    rw [e2]
    refine Ev.step (fun k => by simp only [keys_Minus.l0]; rw [if_pos (by omega), if_pos (by omega), if_pos (by omega)]) ?_
    simp only [rd27 l n hn, eta27, e]
    unfold mn1 at ih ⊢
    by_cases ha : a.toList = []
    · simp only [if_pos ha] at ih ⊢
      by_cases hb : b.toList = []
      · simp only [if_pos hb] at ih ⊢
        simpa using ih
      · simp only [if_neg hb] at ih ⊢
        refine Ev.bind (meet_ev _ (by simp)) ?_
        simp only [if_pos (show out.length < 4398046511104 by omega)]
        exact ih
    · simp only [if_neg ha] at ih ⊢
      refine Ev.bind (meet_ev _ (by simp)) ?_
      simp only [if_pos (show out.length < 4398046511104 by omega), Option.bind_some]
      by_cases hb : b.toList = []
      · simp only [if_pos hb, List.append_nil] at ih ⊢
        exact ih
      · simp only [if_neg hb] at ih ⊢
        refine Ev.bind (meet_ev _ (by simp)) ?_
        simp only [if_pos (show (out ++ [(⟨(meetOf [l[n], ⟨⟨#[]⟩, a⟩]).1, (meetOf [l[n], ⟨⟨#[]⟩, a⟩]).2⟩ : S27)]).length < 4398046511104 by simp; omega)]
        rw [← List.append_assoc] at ih ⊢
        exact ih
theorem minus_ev (l : List S27) (hl : l.length ≤ 1048576) (a b : ByteArray) : Ev (fun k => keys_Minus.f k l a b) (minus l a b) := by
  unfold minus
  by_cases h : emp a.toList b.toList = true
  · rw [if_pos h]
    refine Ev.congr (f := fun k => (keys_Union.f k l).bind fun t => some t) (fun k => ?_) (Ev.bind (uni_ev l (by omega)) (Ev.now _))
    unfold keys_Minus.f
    rw [empty_eq, Option.bind_some, if_pos h]
  · rw [if_neg h]
    have := minus_loop l hl a b l.length 0 [] (by omega) (by simp)
    rw [List.drop_zero, List.nil_append] at this
    refine Ev.congr (f := fun k => keys_Minus.l0 k ([] : List S27) l (l.length : Int) 0 a b) (fun k => ?_) this
    unfold keys_Minus.f
    rw [empty_eq, Option.bind_some, if_neg h]
theorem hits_eq (l : List S27) (s : ByteArray) (hl : l.length ≤ 9223372036854775807) : keys_Hits.f l s = some (l.any (inR · s.toList)) := by
  unfold keys_Hits.f
  rw [if_pos ⟨hl, by rw [List.all_eq_true]; intro x _; rw [in_eq]; rfl⟩]
  congr 2
  funext x
  rw [in_eq]
  rfl
theorem mid_len : ∀ (S out : List S27), (S.foldl stp out).length ≤ out.length + S.length
  | [], out => by simp
  | r :: S, out => by
    rw [List.foldl_cons, List.length_cons]
    have h := mid_len S (stp out r)
    have h2 : (stp out r).length ≤ out.length + 1 := by
      rcases List.eq_nil_or_concat out with rfl | ⟨i, x, rfl⟩
      · simp [stp_nil]
      · rw [List.concat_eq_append, stp_snoc]
        split <;> simp
    omega
theorem uni_len (l : List S27) : (uni l).length ≤ l.length := by
  have h1 := mid_len (srt (full l)) []
  have h2 := (srt_spec (full l)).1.length_eq
  have h3 : (full l).length ≤ l.length := List.length_filter_le _ _
  unfold uni
  simp only [List.length_nil] at h1
  omega
theorem minus_len (l : List S27) (a b : ByteArray) : (minus l a b).length ≤ 2 * l.length := by
  unfold minus
  split
  · have := uni_len l; omega
  · have h1 := uni_len (mns l a b)
    have h2 := mns_len a b l
    omega
theorem bulk_len2 : ∀ l : List S27, 3 * l.length ≤ (l.map bulk27).sum
  | [] => by simp
  | x :: l => by
    have := bulk_len2 l
    rw [List.map_cons, List.sum_cons, List.length_cons]
    have : 3 ≤ bulk27 x := by unfold bulk27; omega
    omega
theorem bulk_len : ∀ l : List S27, l.length ≤ (l.map bulk27).sum
  | [] => by simp
  | x :: l => by
    have := bulk_len l
    rw [List.map_cons, List.sum_cons, List.length_cons]
    have : 1 ≤ bulk27 x := by unfold bulk27; omega
    omega
end Go.Proofs.Ytmgbmnjjkcljhaa.Lib

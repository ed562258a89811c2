/-
Of the row ValidDoes: printed walks and plain laws, merged (wip/claim2.py).
-/
import Derived.Test.YtgbmlkoblcfceaaQValidDoes4
import Derived.Test.YtgbmlkoblcfceaaQValidDoes18
import Derived.Lib.Strings
set_option linter.unusedVariables false
set_option linter.unusedSimpArgs false
namespace Go.Proofs.Ytgbmlkoblcfceaa.Ky
open Go.RowKit Go.Proofs.Ytgbmlkoblcfceaa.B Go.Proofs.YtgbmlkoblcfceaaW.PrintWords Go.Proofs.YtgbmlkoblcfceaaW.PrintLast
abbrev bl := Op.bytesLess
theorem bl_asym (x y : List UInt8) : (bl x y || x == y) = !(bl y x) := Go.Proofs.YtgbmlkoblcfceaaW.Mine.bl_asym x y
theorem bl_irrefl : ∀ x : List UInt8, bl x x = false
  | [] => rfl
  | a :: x => by
    have := bl_irrefl x
    simp [bl, Op.bytesLess] at this ⊢
    exact this
theorem bl_not {x y : List UInt8} (h : bl x y = true) : bl y x = false := by
  have := bl_asym x y
  rw [h] at this
  simpa using this.symm
theorem bl_tri {x y : List UInt8} (h : bl x y = false) (h2 : bl y x = false) : x = y := by
  have := bl_asym x y
  rw [h, h2] at this
  simpa using this
theorem bl_trans : ∀ {x y z : List UInt8}, bl x y = true → bl y z = true → bl x z = true
  | _, _, [], _, h => by simp [bl, Op.bytesLess] at h
  | _, [], _ :: _, h, _ => by simp [bl, Op.bytesLess] at h
  | [], _ :: _, _ :: _, _, _ => by simp [bl, Op.bytesLess]
  | a :: x, b :: y, c :: z, h, h2 => by
    simp only [bl, Op.bytesLess, Bool.or_eq_true, decide_eq_true_eq, Bool.and_eq_true, beq_iff_eq] at h h2 ⊢
    rcases h with h | ⟨rfl, h⟩ <;> rcases h2 with h2 | ⟨rfl, h2⟩
    · exact .inl (UInt8.lt_trans h h2)
    · exact .inl h
    · exact .inl h2
    · exact .inr ⟨rfl, bl_trans h h2⟩
theorem bl_le_trans {x y z : List UInt8} (h : bl y x = false) (h2 : bl z y = false) : bl z x = false := by
  cases h3 : bl z x with
  | false => rfl
  | true =>
    cases h4 : bl x y with
    | true => rw [bl_trans h3 h4] at h2; cases h2
    | false => rw [bl_tri h4 h] at h3; rw [h3] at h2; cases h2
theorem inj_toList {s t : ByteArray} (h : s.toList = t.toList) : s = t := by
  rw [Go.Lib.toList_data, Go.Lib.toList_data] at h
  cases s; cases t
  simp_all
theorem bl_lt : ∀ (x y : List UInt8), bl x y = decide (x < y)
  | [], [] => by simp [bl, Op.bytesLess]
  | _ :: _, [] => by simp [bl, Op.bytesLess]
  | [], _ :: _ => by simp [bl, Op.bytesLess]
  | a :: x, b :: y => by
    have := bl_lt x y
    simp only [bl] at this ⊢
    simp only [Op.bytesLess, this, List.cons_lt_cons_iff]
    by_cases h1 : a < b
    · simp [h1]
    · by_cases h2 : a = b
      · simp [h1, h2]
      · simp [h1, h2]
theorem le_bl (x y : List UInt8) : decide (x ≤ y) = !(bl y x) := by
  rw [bl_lt]
  by_cases h : y < x
  · rw [decide_eq_true h]
    exact decide_eq_false (fun e => e h)
  · rw [decide_eq_false h]
    exact decide_eq_true h
def Strict (l : List ByteArray) : Prop := l.Pairwise (fun x y => bl x.toList y.toList = true)
theorem uniq : ∀ {l m : List ByteArray}, Strict l → Strict m → (∀ x, x ∈ l ↔ x ∈ m) → l = m
  | [], [], _, _, _ => rfl
  | [], b :: m, _, _, h => by have := (h b).2 (List.mem_cons_self ..); cases this
  | a :: l, [], _, _, h => by have := (h a).1 (List.mem_cons_self ..); cases this
  | a :: l, b :: m, h1, h2, h => by
    obtain ⟨ha, h1t⟩ := List.pairwise_cons.1 h1
    obtain ⟨hb, h2t⟩ := List.pairwise_cons.1 h2
    have e : a = b := by
      rcases List.mem_cons.1 ((h a).1 (List.mem_cons_self ..)) with e | h3
      · exact e
      · rcases List.mem_cons.1 ((h b).2 (List.mem_cons_self ..)) with e | h4
        · exact e.symm
        · have := bl_not (ha b h4)
          rw [hb a h3] at this
          cases this
    subst e
    refine congrArg (a :: ·) (uniq h1t h2t (fun x => ?_))
    constructor
    · intro hx
      rcases List.mem_cons.1 ((h x).1 (List.mem_cons_of_mem _ hx)) with e | h3
      · have := ha x hx
        rw [e, bl_irrefl] at this
        cases this
      · exact h3
    · intro hx
      rcases List.mem_cons.1 ((h x).2 (List.mem_cons_of_mem _ hx)) with e | h3
      · have := hb x hx
        rw [e, bl_irrefl] at this
        cases this
      · exact h3
theorem srt_sorted (l : List ByteArray) : (Srt.srt l).Pairwise (fun x y => bl y.toList x.toList = false) := by
  unfold Srt.srt
  rw [List.pairwise_map]
  refine List.Pairwise.imp (R := fun a b => decide (a ≤ b) = true) ?_ (List.pairwise_mergeSort (le := fun x y => decide (x ≤ y)) ?_ ?_ _)
  · intro a b h
    rw [le_bl] at h
    rw [Go.Lib.toList_data, Go.Lib.toList_data]
    simpa using h
  · intro a b c h1 h2
    rw [le_bl] at *
    simp only [Bool.not_eq_true'] at *
    exact bl_le_trans h1 h2
  · intro a b
    rw [le_bl, le_bl]
    cases h : bl b a with
    | false => rfl
    | true => rw [bl_not h]; rfl
theorem cgo_strict : ∀ {l : List ByteArray} {p : ByteArray}, (p :: l).Pairwise (fun x y => bl y.toList x.toList = false) → Strict (p :: Cp.cgo p l)
  | [], p, _ => List.pairwise_singleton _ _
  | y :: l, p, h => by
    obtain ⟨h1, h2⟩ := List.pairwise_cons.1 h
    have ih := cgo_strict h2
    simp only [Cp.cgo]
    by_cases e : p.toList = y.toList
    · rw [if_pos e]
      rw [inj_toList e]
      exact ih
    · rw [if_neg e]
      have hpy : bl p.toList y.toList = true := by
        cases h3 : bl p.toList y.toList with
        | true => rfl
        | false => exact absurd (bl_tri h3 (h1 y (List.mem_cons_self ..))) e
      refine List.pairwise_cons.2 ⟨?_, ih⟩
      intro x hx
      rcases List.mem_cons.1 hx with rfl | hx
      · exact hpy
      · exact bl_trans hpy ((List.pairwise_cons.1 ih).1 x hx)
theorem cgo_sub {x : ByteArray} : ∀ {l : List ByteArray} {p : ByteArray}, x ∈ Cp.cgo p l → x ∈ l
  | [], p, h => by cases h
  | y :: l, p, h => by
    simp only [Cp.cgo] at h
    split at h
    · exact List.mem_cons_of_mem _ (cgo_sub h)
    · rcases List.mem_cons.1 h with rfl | h
      · exact List.mem_cons_self ..
      · exact List.mem_cons_of_mem _ (cgo_sub h)
theorem cgo_mem {x : ByteArray} : ∀ {l : List ByteArray} {p : ByteArray}, x ∈ l → x = p ∨ x ∈ Cp.cgo p l
  | [], p, h => by cases h
  | y :: l, p, h => by
    simp only [Cp.cgo]
    by_cases e : p.toList = y.toList
    · rw [if_pos e]
      have e2 := inj_toList e
      subst e2
      rcases List.mem_cons.1 h with rfl | h
      · exact .inl rfl
      · exact cgo_mem h
    · rw [if_neg e]
      rcases List.mem_cons.1 h with rfl | h
      · exact .inr (List.mem_cons_self ..)
      · rcases cgo_mem (p := y) h with rfl | h
        · exact .inr (List.mem_cons_self ..)
        · exact .inr (List.mem_cons_of_mem _ h)
def keys (l : List ByteArray) : List ByteArray := Cp.cpt (Srt.srt l)
theorem keys_strict (l : List ByteArray) : Strict (keys l) := by
  have h := srt_sorted l
  unfold keys
  cases e : Srt.srt l with
  | nil => exact List.Pairwise.nil
  | cons p m => rw [e] at h; exact cgo_strict h
theorem mem_srt {x : ByteArray} {l : List ByteArray} : x ∈ Srt.srt l ↔ x ∈ l := by
  unfold Srt.srt
  simp only [List.mem_map, List.mem_mergeSort]
  constructor
  · rintro ⟨b, ⟨s, hs, rfl⟩, rfl⟩
    exact hs
  · intro h
    exact ⟨x.data.toList, ⟨x, h, rfl⟩, rfl⟩
theorem mem_keys {x : ByteArray} {l : List ByteArray} : x ∈ keys l ↔ x ∈ l := by
  rw [← mem_srt (l := l)]
  unfold keys
  cases Srt.srt l with
  | nil => exact Iff.rfl
  | cons p m =>
    simp only [Cp.cpt]
    constructor
    · intro h
      rcases List.mem_cons.1 h with rfl | h
      · exact List.mem_cons_self ..
      · exact List.mem_cons_of_mem _ (cgo_sub h)
    · intro h
      rcases List.mem_cons.1 h with rfl | h
      · exact List.mem_cons_self ..
      · rcases cgo_mem (p := p) h with rfl | h
        · exact List.mem_cons_self ..
        · exact List.mem_cons_of_mem _ h
def pl (out : List ByteArray) (x : ByteArray) : Nat := (out.takeWhile (fun y => bl y.toList x.toList)).length
def insS (out : List ByteArray) (x : ByteArray) : List ByteArray := if out[pl out x]? = some x then out else out.take (pl out x) ++ [x] ++ out.drop (pl out x)
theorem pl_le (out : List ByteArray) (x : ByteArray) : pl out x ≤ out.length := (List.takeWhile_prefix _).length_le
theorem pl_below {out : List ByteArray} {x : ByteArray} {j : Nat} (hj : j < pl out x) : bl (out[j]'(Nat.lt_of_lt_of_le hj (pl_le out x))).toList x.toList = true := by
  have h1 : (out.takeWhile (fun y => bl y.toList x.toList))[j]'hj = out[j]'(Nat.lt_of_lt_of_le hj (pl_le out x)) := (List.takeWhile_prefix _).getElem hj
  rw [← h1]
  exact (List.all_eq_true.1 (List.all_takeWhile (l := out) (p := fun y => bl y.toList x.toList))) _ (List.getElem_mem hj)
theorem pl_next {out : List ByteArray} {x : ByteArray} (h : pl out x < out.length) : bl out[pl out x].toList x.toList = false := by
  cases e : bl out[pl out x].toList x.toList with
  | false => rfl
  | true =>
    have h2 : (out.takeWhile (fun y => bl y.toList x.toList)).length + 1 ≤ (out.takeWhile (fun y => bl y.toList x.toList)).length := by
      have h3 : (out.take (pl out x + 1)).all (fun y => bl y.toList x.toList) = true := by
        rw [List.all_eq_true]
        intro y hy
        obtain ⟨j, hj, rfl⟩ := List.mem_iff_getElem.1 hy
        rw [List.length_take] at hj
        rw [List.getElem_take]
        by_cases hjp : j < pl out x
        · exact pl_below hjp
        · have : j = pl out x := by omega
          subst this
          exact e
      have h4 : out.takeWhile (fun y => bl y.toList x.toList) = out.take (pl out x + 1) ++ (out.drop (pl out x + 1)).takeWhile (fun y => bl y.toList x.toList) := by
        conv => lhs; rw [← List.take_append_drop (pl out x + 1) out]
        rw [List.takeWhile_append_of_pos (fun y hy => (List.all_eq_true.1 h3) y hy)]
      have h5 := congrArg List.length h4
      rw [List.length_append, List.length_take] at h5
      have h6 : min (pl out x + 1) out.length = pl out x + 1 := by omega
      rw [h6] at h5
      unfold pl at h5 h
      omega
    omega
theorem ins_len (out : List ByteArray) (x : ByteArray) : (insS out x).length ≤ out.length + 1 := by
  unfold insS
  split
  · omega
  · simp only [List.length_append, List.length_take, List.length_drop, List.length_singleton]
    have := pl_le out x
    omega
theorem mem_ins {out : List ByteArray} {x y : ByteArray} : y ∈ insS out x ↔ y ∈ out ∨ y = x := by
  unfold insS
  split
  · rename_i h
    constructor
    · exact .inl
    · rintro (h2 | rfl)
      · exact h2
      · exact List.mem_of_getElem? h
  · rw [List.mem_append, List.mem_append, List.mem_singleton]
    conv => rhs; rw [← List.take_append_drop (pl out x) out, List.mem_append]
    constructor
    · rintro ((h | h) | h)
      · exact .inl (.inl h)
      · exact .inr h
      · exact .inl (.inr h)
    · rintro ((h | h) | h)
      · exact .inl (.inl h)
      · exact .inr h
      · exact .inl (.inr h)
theorem ins_strict {out : List ByteArray} (hs : Strict out) (x : ByteArray) : Strict (insS out x) := by
  unfold insS
  split
  · exact hs
  · rename_i hne
    have hb : ∀ y ∈ out.take (pl out x), bl y.toList x.toList = true := by
      intro y hy
      obtain ⟨j, hj, rfl⟩ := List.mem_iff_getElem.1 hy
      rw [List.length_take] at hj
      rw [List.getElem_take]
      exact pl_below (by omega)
    have ha : ∀ y ∈ out.drop (pl out x), bl x.toList y.toList = true := by
      by_cases hlt : pl out x < out.length
      · have h1 := pl_next hlt
        have h2 : bl x.toList out[pl out x].toList = true := by
          cases e : bl x.toList out[pl out x].toList with
          | true => rfl
          | false =>
            have := inj_toList (bl_tri h1 e)
            exact absurd (by rw [List.getElem?_eq_getElem hlt, this]) hne
        intro y hy
        rw [List.drop_eq_getElem_cons hlt] at hy
        rcases List.mem_cons.1 hy with rfl | hy
        · exact h2
        · have h3 : Strict (out.drop (pl out x)) := hs.sublist (List.drop_sublist _ _)
          rw [List.drop_eq_getElem_cons hlt] at h3
          exact bl_trans h2 ((List.pairwise_cons.1 h3).1 y hy)
      · rw [List.drop_of_length_le (by omega)]
        intro y hy
        cases hy
    rw [List.append_assoc]
    refine List.pairwise_append.2 ⟨hs.sublist (List.take_sublist _ _), List.pairwise_cons.2 ⟨ha, hs.sublist (List.drop_sublist _ _)⟩, ?_⟩
    intro y hy z hz
    rcases List.mem_cons.1 hz with rfl | hz
    · exact hb y hy
    · exact bl_trans (hb y hy) (ha z hz)
theorem fold_strict : ∀ (l : List ByteArray) {out : List ByteArray}, Strict out → Strict (l.foldl insS out) ∧ ∀ y, y ∈ l.foldl insS out ↔ y ∈ out ∨ y ∈ l
  | [], out, h => ⟨h, fun y => by simp⟩
  | x :: l, out, h => by
    obtain ⟨h1, h2⟩ := fold_strict l (ins_strict h x)
    refine ⟨h1, fun y => ?_⟩
    rw [List.foldl_cons, h2, mem_ins, List.mem_cons]
    constructor
    · rintro ((h | h) | h)
      · exact .inl h
      · exact .inr (.inl h)
      · exact .inr (.inr h)
    · rintro (h | h | h)
      · exact .inl (.inl h)
      · exact .inl (.inr h)
      · exact .inr h
theorem keys_fold (l : List ByteArray) : l.foldl insS [] = keys l := by
  obtain ⟨h1, h2⟩ := fold_strict l (out := []) List.Pairwise.nil
  refine uniq h1 (keys_strict l) (fun x => ?_)
  rw [h2, mem_keys]
  simp
end Go.Proofs.Ytgbmlkoblcfceaa.Ky

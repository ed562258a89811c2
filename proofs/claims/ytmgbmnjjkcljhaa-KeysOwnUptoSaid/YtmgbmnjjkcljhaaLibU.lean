/-
Unions of ranges: what the merge of sorted ranges makes, that it has just the texts that the ranges have, that it is the shortest list that does; and that there is one such list alone.
-/
import Derived.Test.YtmgbmnjjkcljhaaBx22
import Derived.Test.YtmgbmnjjkcljhaaLibB
namespace Go.Proofs.Ytmgbmnjjkcljhaa.Lib
open Go.RowKit Go.Proofs.Ytmgbmnjjkcljhaa.B Go.Proofs.YtmgbmnjjkcljhaaW.PrintWords Go.Proofs.YtmgbmnjjkcljhaaW.PrintLast
set_option linter.unusedVariables false
set_option linter.unusedSimpArgs false
def lo (x : S27) : List UInt8 := x.f0.toList
def hi (x : S27) : List UInt8 := x.f1.toList
def inR (x : S27) (s : List UInt8) : Bool := inn (lo x) (hi x) s
def ne (x : S27) : Prop := emp (lo x) (hi x) = false
theorem ne_def {x : S27} : ne x ↔ (hi x = [] ∨ bl (lo x) (hi x) = true) := by
  unfold ne emp
  cases h : hi x with
  | nil => simp
  | cons a l => cases h2 : bl (lo x) (a :: l) <;> simp
theorem inn_def {l h s : List UInt8} : inn l h s = true ↔ (bl s l = false ∧ (h = [] ∨ bl s h = true)) := by
  unfold inn
  cases h with
  | nil => cases h2 : bl s l <;> simp
  | cons a t => cases h2 : bl s l <;> cases h3 : bl s (a :: t) <;> simp
def touch (x r : S27) : Bool := (hi x).isEmpty || !(bl (hi x) (lo r))
def ext (x r : S27) : S27 := if (!(hi x).isEmpty && ((hi r).isEmpty || bl (hi x) (hi r))) = true then ⟨x.f0, r.f1⟩ else x
def stp (out : List S27) (r : S27) : List S27 := match out.getLast? with
  | none => [r]
  | some x => if touch x r = true then out.dropLast ++ [ext x r] else out ++ [r]
theorem stp_nil (r : S27) : stp [] r = [r] := rfl
theorem stp_snoc (i : List S27) (x r : S27) : stp (i ++ [x]) r = if touch x r = true then i ++ [ext x r] else i ++ [x] ++ [r] := by
  unfold stp
  rw [List.getLast?_append]
  simp
theorem eta27 (x : S27) : (⟨x.f0, x.f1⟩ : S27) = x := rfl
theorem rd_last (i : List S27) (x : S27) : rd_T27 (i ++ [x]) (i.length : Int) = x := by
  rw [rd27 _ _ (by simp)]
  simp
theorem union_loop (S : List S27) (hS : S.length ≤ 4398046511000) : ∀ (d n : Nat) (out : List S27), n + d = S.length → out.length ≤ n → Ev (fun k => keys_Union.l0 k out S (S.length : Int) (n : Int)) ((S.drop n).foldl stp out)
  | 0, n, out, h, _ => by
    rw [List.drop_of_length_le (by omega)]
    refine Ev.step (f := fun _ => some out) (fun k => ?_) (Ev.now _)
    simp only [keys_Union.l0]
    rw [if_neg (by omega)]
  | d + 1, n, out, h, ho => by
    have hn : n < S.length := by omega
    have e : wrap64 ((n : Int) + 1) = ((n + 1 : Nat) : Int) := by rw [wr1 (by omega) (by omega)]; omega
    rw [List.drop_eq_getElem_cons hn, List.foldl_cons]
    have hl : (stp out S[n]).length ≤ n + 1 := by
      rcases List.eq_nil_or_concat out with rfl | ⟨i, x, rfl⟩
      · simp [stp_nil]
      · rw [List.concat_eq_append, stp_snoc]
        rw [List.concat_eq_append, List.length_append] at ho
        simp only [List.length_singleton] at ho
        split <;> simp <;> omega
    have ih := union_loop S hS d (n + 1) (stp out S[n]) (by omega) hl
    rcases List.eq_nil_or_concat out with rfl | ⟨i, x, rfl⟩
    · refine Ev.step (fun k => by simp only [keys_Union.l0]; rw [if_pos (by omega), if_pos (by omega), if_pos (by omega), if_neg (by simp), rd27 S n hn]) ?_
      refine Ev.step (fun k => by simp only [keys_Union.j1]; rw [if_neg (by decide), if_pos (by simp), e, eta27, List.nil_append]) ?_
      exact ih
    · rw [List.concat_eq_append] at ho ih ⊢
      have hil : i.length < n := by rw [List.length_append] at ho; simp at ho; omega
      have eL : ((i ++ [x]).length : Int) = (i.length : Int) + 1 := by simp
      have e2 : wrap64 (((i ++ [x]).length : Int) - 1) = (i.length : Int) := by rw [eL, wr1 (by omega) (by omega)]; omega
      have e3 : (i.length : Int) < ((i ++ [x]).length : Int) := by omega
      clear eL
      have e4 : (i ++ [x]).set ((i.length : Int)).toNat (⟨x.f0, S[n].f1⟩ : S27) = i ++ [⟨x.f0, S[n].f1⟩] := by
        rw [Int.toNat_natCast, List.set_append_right _ _ (Nat.le_refl _)]
        simp
      have e5 : (i ++ [x]).length < 4398046511104 := by simp; omega
      rw [stp_snoc] at ih
      by_cases h1 : x.f1.toList = []
      · have ht : touch x S[n] = true := by unfold touch hi; rw [h1]; rfl
        have hx : ext x S[n] = x := by unfold ext hi; rw [h1]; rfl
        rw [if_pos ht, hx] at ih
        refine Ev.step (fun k => by simp only [keys_Union.l0]; rw [if_pos (by omega), if_pos (by omega), if_pos (by omega), if_pos (by simp), e2, if_pos (by omega), if_pos e3, rd_last, if_pos h1, rd27 S n hn]) ?_
        refine Ev.step (fun k => by simp only [keys_Union.j1]; rw [if_pos trivial, e2, if_pos (by omega), if_pos e3, rd_last, if_pos h1, e]) ?_
        rw [stp_snoc, if_pos ht, hx]
        exact ih
      · have hne : (hi x).isEmpty = false := by unfold hi; cases h9 : x.f1.toList with
          | nil => exact absurd h9 h1
          | cons _ _ => rfl
        refine Ev.step (fun k => by simp only [keys_Union.l0]; rw [if_pos (by omega), if_pos (by omega), if_pos (by omega), if_pos (by simp), e2, if_pos (by omega), if_pos e3, rd_last, if_neg h1, rd27 S n hn]) ?_
        by_cases h2 : Op.bytesLess x.f1.toList S[n].f0.toList = true
        · have ht : touch x S[n] = false := by unfold touch; rw [hne]; unfold hi lo bl; rw [h2]; rfl
          rw [ht] at ih
          rw [stp_snoc, ht]
          refine Ev.step (fun k => by simp only [keys_Union.j1]; rw [h2, if_neg (by decide), if_pos e5, e, eta27]) ?_
          exact ih
        · have ht : touch x S[n] = true := by unfold touch; rw [hne]; unfold hi lo bl; rw [Bool.eq_false_iff.2 h2]; rfl
          rw [if_pos ht] at ih
          rw [stp_snoc, if_pos ht]
          by_cases h3 : S[n].f1.toList = []
          · have hx : ext x S[n] = ⟨x.f0, S[n].f1⟩ := by unfold ext; rw [hne, if_pos]; unfold hi; rw [h3]; rfl
            rw [hx] at ih ⊢
            refine Ev.step (fun k => by simp only [keys_Union.j1]; rw [Bool.eq_false_iff.2 h2, if_pos (show (!false) = true from rfl), e2, if_pos (by omega), if_pos e3, rd_last, if_neg h1, if_pos h3, e4, e]) ?_
            exact ih
          · by_cases h4 : Op.bytesLess x.f1.toList S[n].f1.toList = true
            · have hx : ext x S[n] = ⟨x.f0, S[n].f1⟩ := by unfold ext; rw [hne, if_pos]; unfold hi bl; rw [h4]; simp
              rw [hx] at ih ⊢
              refine Ev.step (fun k => by simp only [keys_Union.j1]; rw [Bool.eq_false_iff.2 h2, if_pos (show (!false) = true from rfl), e2, if_pos (by omega), if_pos e3, rd_last, if_neg h1, if_neg h3, if_pos h4, e4, e]) ?_
              exact ih
            · have hx : ext x S[n] = x := by
                unfold ext
                rw [if_neg]
                unfold hi bl
                rw [Bool.eq_false_iff.2 h4]
                cases h9 : S[n].f1.toList with
                | nil => exact absurd h9 h3
                | cons _ _ => simp
              rw [hx] at ih ⊢
              refine Ev.step (fun k => by simp only [keys_Union.j1]; rw [Bool.eq_false_iff.2 h2, if_pos (show (!false) = true from rfl), e2, if_pos (by omega), if_pos e3, rd_last, if_neg h1, if_neg h3, if_neg h4, e]) ?_
              exact ih
/-! the shortest list -/
/-- x ends below y -/
def bef (x y : S27) : Prop := hi x ≠ [] ∧ bl (hi x) (lo y) = true
def Canon (l : List S27) : Prop := l.Pairwise bef ∧ ∀ x ∈ l, ne x
theorem inR_ext {x r : S27} (hx : ne x) (hr : ne r) (hlo : bl (lo r) (lo x) = false) (ht : touch x r = true) (s : List UInt8) : inR (ext x r) s = (inR x s || inR r s) := by
  have hn := ne_def.1 hx
  have hm := ne_def.1 hr
  have key : (inR (ext x r) s = true) ↔ (inR x s = true ∨ inR r s = true) := by
    unfold inR
    rw [inn_def, inn_def, inn_def]
    have htd : hi x = [] ∨ bl (hi x) (lo r) = false := by
      unfold touch at ht
      cases h : hi x with
      | nil => exact .inl rfl
      | cons a l => rw [h] at ht; right; simpa using ht
    unfold ext
    by_cases h1 : hi x = []
    · rw [if_neg (by rw [h1]; simp)]
      constructor
      · intro h; exact .inl h
      · rintro (h | ⟨h, _⟩)
        · exact h
        · exact ⟨bl_le_trans hlo h, .inl h1⟩
    · have h2 : bl (hi x) (lo r) = false := htd.resolve_left h1
      have hxe : (hi x).isEmpty = false := by cases h9 : hi x with
        | nil => exact absurd h9 h1
        | cons _ _ => rfl
      by_cases h3 : hi r = []
      · rw [if_pos (by rw [hxe, h3]; rfl)]
        show (bl s (lo x) = false ∧ (hi r = [] ∨ bl s (hi r) = true)) ↔ _
        constructor
        · rintro ⟨h, _⟩
          cases h4 : bl s (hi x) with
          | true => exact .inl ⟨h, .inr rfl⟩
          | false => exact .inr ⟨bl_le_trans h2 h4, .inl h3⟩
        · rintro (⟨h, _⟩ | ⟨h, _⟩)
          · exact ⟨h, .inl h3⟩
          · exact ⟨bl_le_trans hlo h, .inl h3⟩
      · have hre : (hi r).isEmpty = false := by cases h9 : hi r with
          | nil => exact absurd h9 h3
          | cons _ _ => rfl
        by_cases h4 : bl (hi x) (hi r) = true
        · rw [if_pos (by rw [hxe, h4]; simp)]
          show (bl s (lo x) = false ∧ (hi r = [] ∨ bl s (hi r) = true)) ↔ _
          constructor
          · rintro ⟨h, h5⟩
            have h5 := h5.resolve_left h3
            cases h6 : bl s (hi x) with
            | true => exact .inl ⟨h, .inr rfl⟩
            | false => exact .inr ⟨bl_le_trans h2 h6, .inr h5⟩
          · rintro (⟨h, h5⟩ | ⟨h, h5⟩)
            · exact ⟨h, .inr (bl_trans (h5.resolve_left h1) h4)⟩
            · exact ⟨bl_le_trans hlo h, h5⟩
        · rw [if_neg (by rw [hxe, hre, Bool.eq_false_iff.2 h4]; simp)]
          constructor
          · intro h; exact .inl h
          · rintro (h | ⟨h, h5⟩)
            · exact h
            · exact ⟨bl_le_trans hlo h, .inr (bl_lt_le (h5.resolve_left h3) (Bool.eq_false_iff.2 h4))⟩
  cases h1 : inR (ext x r) s <;> cases h2 : inR x s <;> cases h3 : inR r s <;> simp_all
theorem lo_ext (x r : S27) : lo (ext x r) = lo x := by unfold ext; split <;> rfl
theorem inR_lo {x : S27} (h : ne x) : inR x (lo x) = true := inn_low h
theorem ne_of_in {x : S27} {s : List UInt8} (h : inR x s = true) : ne x := emp_inn h
theorem ne_ext {x r : S27} (hx : ne x) (hr : ne r) (hlo : bl (lo r) (lo x) = false) (ht : touch x r = true) : ne (ext x r) := ne_of_in (s := lo x) (by rw [inR_ext hx hr hlo ht, inR_lo hx]; rfl)
/-- what the merge holds to, as far as it has come -/
def Mid (out : List S27) (rest : List S27) : Prop := Canon out ∧ (∀ x ∈ out, ∀ r ∈ rest, bl (lo r) (lo x) = false)
theorem mid_step {out rest : List S27} {r : S27} (h : Mid out (r :: rest)) (hr : ne r) (hs : ∀ y ∈ rest, bl (lo y) (lo r) = false) : Mid (stp out r) rest ∧ ∀ s, (stp out r).any (inR · s) = (out.any (inR · s) || inR r s) := by
  obtain ⟨⟨hp, hn⟩, hl⟩ := h
  rcases List.eq_nil_or_concat out with rfl | ⟨i, x, rfl⟩
  · rw [stp_nil]
    refine ⟨⟨⟨List.pairwise_singleton _ _, fun x hx => by rw [List.mem_singleton.1 hx]; exact hr⟩, fun x hx y hy => by rw [List.mem_singleton.1 hx]; exact hs y hy⟩, fun s => by simp⟩
  · rw [List.concat_eq_append] at *
    have hx : ne x := hn x (by simp)
    have hlo : bl (lo r) (lo x) = false := hl x (by simp) r (by simp)
    rw [List.pairwise_append] at hp
    rw [stp_snoc]
    by_cases ht : touch x r = true
    · rw [if_pos ht]
      refine ⟨⟨⟨?_, ?_⟩, ?_⟩, fun s => ?_⟩
      · rw [List.pairwise_append]
        refine ⟨hp.1, List.pairwise_singleton _ _, fun y hy z hz => ?_⟩
        rw [List.mem_singleton.1 hz]
        have := hp.2.2 y hy x (by simp)
        exact ⟨this.1, by rw [lo_ext]; exact this.2⟩
      · intro y hy
        rcases List.mem_append.1 hy with hy | hy
        · exact hn y (by simp [hy])
        · rw [List.mem_singleton.1 hy]; exact ne_ext hx hr hlo ht
      · intro y hy z hz
        rcases List.mem_append.1 hy with hy | hy
        · exact hl y (by simp [hy]) z (by simp [hz])
        · rw [List.mem_singleton.1 hy, lo_ext]; exact hl x (by simp) z (by simp [hz])
      · rw [List.any_append, List.any_append]
        simp only [List.any_cons, List.any_nil, Bool.or_false]
        rw [inR_ext hx hr hlo ht, Bool.or_assoc]
    · rw [if_neg ht]
      have htd : hi x ≠ [] ∧ bl (hi x) (lo r) = true := by
        unfold touch at ht
        cases h : hi x with
        | nil => rw [h] at ht; simp at ht
        | cons a l => rw [h] at ht; exact ⟨by simp, by simpa using ht⟩
      refine ⟨⟨⟨?_, ?_⟩, ?_⟩, fun s => ?_⟩
      · rw [List.pairwise_append]
        refine ⟨List.pairwise_append.2 hp, List.pairwise_singleton _ _, fun y hy z hz => ?_⟩
        rw [List.mem_singleton.1 hz]
        rcases List.mem_append.1 hy with hy | hy
        · have h5 := hp.2.2 y hy x (by simp)
          exact ⟨h5.1, bl_lt_le h5.2 hlo⟩
        · rw [List.mem_singleton.1 hy]; exact htd
      · intro y hy
        rcases List.mem_append.1 hy with hy | hy
        · exact hn y hy
        · rw [List.mem_singleton.1 hy]; exact hr
      · intro y hy z hz
        rcases List.mem_append.1 hy with hy | hy
        · exact hl y hy z (by simp [hz])
        · rw [List.mem_singleton.1 hy]; exact hs z hz
      · rw [List.any_append]
        simp
theorem mid_fold : ∀ (S out : List S27), Mid out S → (∀ x ∈ S, ne x) → S.Pairwise (fun x y => bl (lo y) (lo x) = false) → Canon (S.foldl stp out) ∧ ∀ s, (S.foldl stp out).any (inR · s) = (out.any (inR · s) || S.any (inR · s))
  | [], out, h, _, _ => ⟨h.1, fun s => by simp⟩
  | r :: S, out, h, hn, hs => by
    rw [List.pairwise_cons] at hs
    obtain ⟨h1, h2⟩ := mid_step h (hn r (by simp)) hs.1
    obtain ⟨h3, h4⟩ := mid_fold S (stp out r) h1 (fun x hx => hn x (by simp [hx])) hs.2
    rw [List.foldl_cons]
    refine ⟨h3, fun s => ?_⟩
    rw [h4, h2, List.any_cons, Bool.or_assoc]
theorem merge_spec (S : List S27) (hn : ∀ x ∈ S, ne x) (hs : S.Pairwise (fun x y => bl (lo y) (lo x) = false)) : Canon (S.foldl stp []) ∧ ∀ s, (S.foldl stp []).any (inR · s) = S.any (inR · s) := by
  obtain ⟨h1, h2⟩ := mid_fold S [] ⟨⟨List.Pairwise.nil, fun x hx => by simp at hx⟩, fun x hx => by simp at hx⟩ hn hs
  exact ⟨h1, fun s => by rw [h2]; simp⟩
/-! one list alone -/
theorem canon_low {x : S27} {l : List S27} (h : Canon (x :: l)) {s : List UInt8} (hs : (x :: l).any (inR · s) = true) : bl s (lo x) = false := by
  rw [List.any_cons, Bool.or_eq_true] at hs
  rcases hs with hs | hs
  · exact (inn_def.1 hs).1
  · obtain ⟨y, hy, hys⟩ := List.any_eq_true.1 hs
    have hb := (List.pairwise_cons.1 h.1).1 y hy
    have hxn := ne_def.1 (h.2 x (by simp))
    have h1 : bl (lo x) (lo y) = true := bl_trans (hxn.resolve_left hb.1) hb.2
    have h2 := (inn_def.1 hys).1
    exact bl_not (bl_lt_le h1 h2)
theorem canon_tail {x : S27} {l : List S27} (h : Canon (x :: l)) (s : List UInt8) : l.any (inR · s) = ((x :: l).any (inR · s) && !(inR x s)) := by
  rw [List.any_cons]
  cases h1 : inR x s with
  | false => simp
  | true =>
    cases h2 : l.any (inR · s) with
    | false => rfl
    | true =>
      obtain ⟨y, hy, hys⟩ := List.any_eq_true.1 h2
      have hb := (List.pairwise_cons.1 h.1).1 y hy
      have h3 := (inn_def.1 h1).2.resolve_left hb.1
      have h4 := (inn_def.1 hys).1
      have h5 := bl_trans h3 hb.2
      rw [h4] at h5
      cases h5
/-- the end of the first range is not in the list -/
theorem canon_end {x : S27} {l : List S27} (h : Canon (x :: l)) (he : hi x ≠ []) : (x :: l).any (inR · (hi x)) = false := by
  rw [List.any_cons, Bool.or_eq_false_iff]
  constructor
  · rw [Bool.eq_false_iff]
    intro h1
    have := (inn_def.1 h1).2.resolve_left he
    rw [bl_irrefl] at this
    cases this
  · rw [List.any_eq_false]
    intro y hy h1
    have hb := (List.pairwise_cons.1 h.1).1 y hy
    have h2 := hb.2
    rw [(inn_def.1 h1).1] at h2
    cases h2
theorem eq_27 {x y : S27} (h1 : lo x = lo y) (h2 : hi x = hi y) : x = y := by
  obtain ⟨a, b⟩ := x
  obtain ⟨c, d⟩ := y
  rw [inj_toList (show a.toList = c.toList from h1), inj_toList (show b.toList = d.toList from h2)]
theorem canon_tl {x : S27} {l : List S27} (h : Canon (x :: l)) : Canon l := ⟨(List.pairwise_cons.1 h.1).2, fun y hy => h.2 y (by simp [hy])⟩
theorem hi_le {x y : S27} {l m : List S27} (hx : Canon (x :: l)) (hy : Canon (y :: m)) (he : ∀ s, (x :: l).any (inR · s) = (y :: m).any (inR · s)) (hlo : lo x = lo y) (hn : hi x ≠ []) : hi y ≠ [] ∧ bl (hi x) (hi y) = false := by
  have h1 := canon_end hx hn
  rw [he, List.any_cons, Bool.or_eq_false_iff] at h1
  have h2 : inR y (hi x) = false := h1.1
  have hxl := (ne_def.1 (hx.2 x (by simp))).resolve_left hn
  have h3 : bl (hi x) (lo y) = false := by rw [← hlo]; exact bl_not hxl
  rw [Bool.eq_false_iff, Ne] at h2
  unfold inR at h2
  rw [inn_def] at h2
  have h4 : ¬ (hi y = [] ∨ bl (hi x) (hi y) = true) := fun h => h2 ⟨h3, h⟩
  exact ⟨fun h => h4 (.inl h), Bool.eq_false_iff.2 (fun h => h4 (.inr h))⟩
theorem canon_one : ∀ (A B : List S27), Canon A → Canon B → (∀ s, A.any (inR · s) = B.any (inR · s)) → A = B
  | [], [], _, _, _ => rfl
  | [], y :: m, _, hB, he => by
    have := he (lo y)
    rw [List.any_cons, inR_lo (hB.2 y (by simp))] at this
    simp at this
  | x :: l, [], hA, _, he => by
    have := he (lo x)
    rw [List.any_cons, inR_lo (hA.2 x (by simp))] at this
    simp at this
  | x :: l, y :: m, hA, hB, he => by
    have h1 : bl (lo x) (lo y) = false := canon_low hB (by rw [← he, List.any_cons, inR_lo (hA.2 x (by simp))]; rfl)
    have h2 : bl (lo y) (lo x) = false := canon_low hA (by rw [he, List.any_cons, inR_lo (hB.2 y (by simp))]; rfl)
    have hlo := bl_tri h1 h2
    have hhi : hi x = hi y := by
      by_cases hx : hi x = []
      · by_cases hy : hi y = []
        · rw [hx, hy]
        · exact absurd hx (hi_le hB hA (fun s => (he s).symm) hlo.symm hy).1
      · obtain ⟨hy, h3⟩ := hi_le hA hB he hlo hx
        exact bl_tri h3 (hi_le hB hA (fun s => (he s).symm) hlo.symm hy).2
    have hxy := eq_27 hlo hhi
    subst hxy
    rw [canon_one l m (canon_tl hA) (canon_tl hB) (fun s => by rw [canon_tail hA, canon_tail hB, he])]
/-! what the program's Union makes -/
theorem cmp_bl : ∀ a b : List UInt8, decide (Go.Lib.compareBytes a b < 0) = bl a b
  | [], [] => rfl
  | [], _ :: _ => rfl
  | _ :: _, [] => rfl
  | x :: a, y :: b => by
    have ih := cmp_bl a b
    unfold bl at ih ⊢
    simp only [Go.Lib.compareBytes, Op.bytesLess]
    by_cases h1 : x < y
    · simp [h1]
    · by_cases h2 : y < x
      · have e : ¬ x = y := by intro e; rw [e] at h2; exact absurd h2 (UInt8.lt_irrefl y)
        simp [h1, h2, e]
      · have e : x = y := by apply UInt8.toNat.inj; rw [UInt8.lt_iff_toNat_lt] at h1 h2; omega
        subst e
        simpa [h1] using ih
def full (l : List S27) : List S27 := l.filter fun x => !(emp (lo x) (hi x))
theorem full_ne {l : List S27} : ∀ x ∈ full l, ne x := fun x hx => by
  have := (List.mem_filter.1 hx).2
  unfold ne
  simpa using this
theorem full_any (l : List S27) (s : List UInt8) : (full l).any (inR · s) = l.any (inR · s) := by
  unfold full
  rw [List.any_filter]
  congr 1
  funext x
  cases h : inR x s with
  | false => simp
  | true => rw [show emp (lo x) (hi x) = false from ne_of_in h]; rfl
def srt (l : List S27) : List S27 := (Go.Sort.pdq (Go.Proofs.ltOf api_Range_40.cf) l.toArray 0 l.toArray.size (Go.Lib.bitLen l.toArray.size) true true).toList
theorem srt_spec (l : List S27) : (srt l).Perm l ∧ (srt l).Pairwise (fun x y => bl (lo y) (lo x) = false) := by
  obtain ⟨⟨h1, _, h2⟩, h3⟩ := Go.Sort.pdq_sorts (Go.Proofs.ltOf api_Range_40.cf) api_Range_40.swo l.toArray 0 l.toArray.size (Go.Lib.bitLen l.toArray.size) true true (Nat.zero_le _) (Nat.le_refl _) (Or.inl rfl)
  have e : Go.Sort.pdq (Go.Proofs.ltOf api_Range_40.cf) l.toArray 0 l.toArray.size (Go.Lib.bitLen l.toArray.size) true true = (srt l).toArray := by unfold srt; rw [Array.toArray_toList]
  rw [e] at h1 h2 h3
  constructor
  · have e1 : (srt l).toArray.extract 0 l.toArray.size = (srt l).toArray := by rw [← h1]; simp
    have e2 : l.toArray.extract 0 l.toArray.size = l.toArray := by simp
    rw [e1, e2] at h2
    simpa using h2
  · rw [List.pairwise_iff_getElem]
    intro i j hi hj hij
    have hs : (srt l).length = l.toArray.size := by rw [← h1]; simp
    have := h3 i j (Nat.zero_le _) hij (by omega)
    rw [getElem!_pos (srt l).toArray j (by simpa using hj), getElem!_pos (srt l).toArray i (by simpa using hi)] at this
    simp only [List.getElem_toArray] at this
    unfold Go.Proofs.ltOf api_Range_40.cf at this
    rw [cmp_bl] at this
    unfold lo
    rw [toList_eq, toList_eq]
    exact this
def uni (l : List S27) : List S27 := (srt (full l)).foldl stp []
theorem uni_spec (l : List S27) : Canon (uni l) ∧ ∀ s, (uni l).any (inR · s) = l.any (inR · s) := by
  obtain ⟨hp, hs⟩ := srt_spec (full l)
  obtain ⟨h1, h2⟩ := merge_spec (srt (full l)) (fun x hx => full_ne x (hp.mem_iff.1 hx)) hs
  refine ⟨h1, fun s => ?_⟩
  rw [show (uni l).any (inR · s) = _ from h2 s, ← full_any l s, Bool.eq_iff_iff, List.any_eq_true, List.any_eq_true]
  exact ⟨fun ⟨x, hx, h⟩ => ⟨x, hp.mem_iff.1 hx, h⟩, fun ⟨x, hx, h⟩ => ⟨x, hp.mem_iff.2 hx, h⟩⟩
theorem uni_ev (l : List S27) (hl : l.length ≤ 4398046511000) : Ev (fun k => keys_Union.f k l) (uni l) := by
  have hf : full l = l.filter fun x => !((keys_Empty.f x.f0 x.f1).getD false) := by
    unfold full
    congr 1
    funext x
    rw [empty_eq]
    rfl
  have hfl : (full l).length ≤ l.length := List.length_filter_le _ _
  have h1 : api_Range_39.f l = some l := by unfold api_Range_39.f; rw [if_pos (by omega)]
  have h2 : api_Range_38.f l = some (full l) := by
    unfold api_Range_38.f
    rw [if_pos ⟨by omega, by rw [List.all_eq_true]; intro x _; rw [empty_eq]; rfl⟩, hf]
  have h3 : api_Range_40.f (full l) = some (srt (full l)) := by
    unfold api_Range_40.f srt
    rw [if_pos (by omega)]
  have hsl : (srt (full l)).length = (full l).length := (srt_spec (full l)).1.length_eq
  have := union_loop (srt (full l)) (by omega) (srt (full l)).length 0 [] (by omega) (Nat.le_refl _)
  rw [List.drop_zero, hsl] at this
  refine Ev.congr (f := fun k => keys_Union.l0 k ([] : List S27) (srt (full l)) ((full l).length : Int) 0) (fun k => ?_) this
  unfold keys_Union.f
  rw [h1, Option.bind_some, h2, Option.bind_some, h3, Option.bind_some]
end Go.Proofs.Ytmgbmnjjkcljhaa.Lib

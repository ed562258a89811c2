/-
The document's union and difference of ranges: the same lists.
-/
import Derived.Test.YtmgbmnjjkcljhaaBx27
import Derived.Test.YtmgbmnjjkcljhaaBx26
import Derived.Test.YtmgbmnjjkcljhaaBx24
import Derived.Test.YtmgbmnjjkcljhaaLibC
import Derived.Test.YtmgbmnjjkcljhaaLibM
namespace Go.Proofs.Ytmgbmnjjkcljhaa.Lib
open Go.RowKit Go.Proofs.Ytmgbmnjjkcljhaa.B Go.Proofs.YtmgbmnjjkcljhaaW.PrintWords Go.Proofs.YtmgbmnjjkcljhaaW.PrintLast
set_option linter.unusedVariables false
set_option linter.unusedSimpArgs false
def qle (r x : S27) : Bool := !(bl (lo r) (lo x))
def insAt (S : List S27) (p : Nat) (r : S27) : List S27 := S.take p ++ [r] ++ S.drop p
def posF (S : List S27) (r : S27) (n : Nat) : Nat := n + ((S.drop n).takeWhile (qle r)).length
def insr (S : List S27) (r : S27) : List S27 := insAt S (posF S r 0) r
theorem posF_le (S : List S27) (r : S27) (n : Nat) (h : n ≤ S.length) : posF S r n ≤ S.length := by
  unfold posF
  have := (List.takeWhile_prefix (qle r) (l := S.drop n)).length_le
  rw [List.length_drop] at this
  omega
theorem insAt_len (S : List S27) (p : Nat) (r : S27) : (insAt S p r).length = S.length + 1 := by
  unfold insAt
  simp only [List.length_append, List.length_take, List.length_singleton, List.length_drop]
  omega
theorem j2_false (l S : List S27) (hl : l.length ≤ 1048576) (hS : S.length ≤ 1048576) (i n : Nat) (hi : i < l.length) (hn : n ≤ S.length) (res : List S27) (h : Ev (fun k => cressetref05_Union.l0 k l (insAt S n l[i]) ((i + 1 : Nat) : Int)) res) : Ev (fun k => cressetref05_Union.j2 k l S (i : Int) (n : Int) false) res := by
  have e : wrap64 ((i : Int) + 1) = ((i + 1 : Nat) : Int) := by rw [wr1 (by omega) (by omega)]; omega
  refine Ev.step (fun k => ?_) h
  simp only [cressetref05_Union.j2]
  rw [if_neg (by decide), if_pos (by omega), if_pos (by omega)]
  simp only [Option.bind_some, Int.toNat_natCast, List.nil_append]
  rw [if_pos (by simp; omega), if_pos (by omega), if_pos (by omega)]
  rw [if_pos (by simp; omega), if_pos (by simp; omega), rd27 l i hi, eta27, e]
  rfl
theorem l1_loop (l S : List S27) (hl : l.length ≤ 1048576) (hS : S.length ≤ 1048576) (i : Nat) (hi : i < l.length) (res : List S27) : ∀ (d n : Nat), n + d = S.length → Ev (fun k => cressetref05_Union.l0 k l (insAt S (posF S l[i] n) l[i]) ((i + 1 : Nat) : Int)) res → Ev (fun k => cressetref05_Union.l1 k l S (i : Int) (n : Int)) res
  | 0, n, h, hr => by
    have hp : posF S l[i] n = n := by unfold posF; rw [List.drop_of_length_le (by omega)]; rfl
    rw [hp] at hr
    refine Ev.step (fun k => ?_) (j2_false l S hl hS i n hi (by omega) res hr)
    simp only [cressetref05_Union.l1]
    rw [if_neg (by omega)]
  | d + 1, n, h, hr => by
    have hn : n < S.length := by omega
    have e : wrap64 ((n : Int) + 1) = ((n + 1 : Nat) : Int) := by rw [wr1 (by omega) (by omega)]; omega
    refine Ev.step (f := fun k => cressetref05_Union.j2 k l S (i : Int) (n : Int) (qle l[i] S[n])) (fun k => ?_) ?_
    · simp only [cressetref05_Union.l1]
      rw [if_pos (by omega), if_pos (by omega), if_pos (by omega), if_pos (by omega), rd27 l i hi, rd27 S n hn]
      rfl
    · by_cases hq : qle l[i] S[n] = true
      · have hp : posF S l[i] n = posF S l[i] (n + 1) := by
          unfold posF
          rw [List.drop_eq_getElem_cons hn, List.takeWhile_cons, if_pos hq, List.length_cons]
          omega
        rw [hp] at hr
        rw [hq]
        refine Ev.step (fun k => ?_) (l1_loop l S hl hS i hi res d (n + 1) (by omega) hr)
        simp only [cressetref05_Union.j2]
        rw [if_pos trivial, e]
      · have hp : posF S l[i] n = n := by
          unfold posF
          rw [List.drop_eq_getElem_cons hn, List.takeWhile_cons, if_neg hq]
          rfl
        rw [hp] at hr
        rw [Bool.eq_false_iff.2 hq]
        exact j2_false l S hl hS i n hi (by omega) res hr
theorem j5_ev (S : List S27) (hS : S.length ≤ 1048576) (n : Nat) (hn : n < S.length) (i : List S27) (x : S27) (hi : i.length < 1048576) (b : Bool) (res : List S27) (h : Ev (fun k => cressetref05_Union.l2 k S (i ++ [if b = true then ⟨x.f0, S[n].f1⟩ else x]) ((n + 1 : Nat) : Int)) res) :
    Ev (fun k => cressetref05_Union.j5 k S (i ++ [x]) (n : Int) (i.length : Int) b) res := by
  have e : wrap64 ((n : Int) + 1) = ((n + 1 : Nat) : Int) := by rw [wr1 (by omega) (by omega)]; omega
  have e4 : (i ++ [x]).set ((i.length : Int)).toNat (⟨x.f0, S[n].f1⟩ : S27) = i ++ [⟨x.f0, S[n].f1⟩] := by
    rw [Int.toNat_natCast, List.set_append_right _ _ (Nat.le_refl _)]
    simp
  have e3 : (i.length : Int) < ((i ++ [x]).length : Int) := by simp; omega
  refine Ev.step (fun k => ?_) h
  simp only [cressetref05_Union.j5]
  cases b with
  | true => rw [if_pos rfl, if_pos (by omega), if_pos (by omega), if_pos (by omega), if_pos e3, rd_last, rd27 S n hn, e4, e]; rfl
  | false => rw [if_neg (by decide), e]; rfl
theorem l2_loop (S : List S27) (hS : S.length ≤ 1048576) : ∀ (d n : Nat) (out : List S27), n + d = S.length → out.length ≤ n → Ev (fun k => cressetref05_Union.l2 k S out (n : Int)) ((S.drop n).foldl stp out)
  | 0, n, out, h, _ => by
    rw [List.drop_of_length_le (by omega)]
    refine Ev.step (f := fun _ => some out) (fun k => ?_) (Ev.now _)
    simp only [cressetref05_Union.l2]
    rw [if_neg (by omega)]
  | d + 1, n, out, h, ho => by
    have hn : n < S.length := by omega
    have e : wrap64 ((n : Int) + 1) = ((n + 1 : Nat) : Int) := by rw [wr1 (by omega) (by omega)]; omega
    rw [List.drop_eq_getElem_cons hn, List.foldl_cons]
    have hl : (stp out S[n]).length ≤ n + 1 := by
      rcases List.eq_nil_or_concat out with rfl | ⟨i, x, rfl⟩
      · simp [stp_nil]
      · rw [List.concat_eq_append, stp_snoc]
        rw [List.concat_eq_append, List.length_append] at ho
        simp only [List.length_singleton] at ho
        split <;> simp <;> omega
    have ih := l2_loop S hS d (n + 1) (stp out S[n]) (by omega) hl
    have happ : ∀ o : List S27, o.length ≤ n → ∀ z : Int, Ev (fun k => cressetref05_Union.l2 k S (o ++ [S[n]]) ((n + 1 : Nat) : Int)) (List.foldl stp (stp out S[n]) (List.drop (n + 1) S)) → Ev (fun k => cressetref05_Union.j4 k S o (n : Int) z true) (List.foldl stp (stp out S[n]) (List.drop (n + 1) S)) := by
      intro o ho z h
      refine Ev.step (fun k => ?_) h
      simp only [cressetref05_Union.j4]
      rw [if_pos trivial, if_pos (by omega), if_pos (by omega)]
      simp only [Option.bind_some]
      rw [if_pos (by simp; omega), rd27 S n hn, eta27, e]
    rcases List.eq_nil_or_concat out with rfl | ⟨i, x, rfl⟩
    · refine Ev.step (fun k => by simp only [cressetref05_Union.l2]; rw [if_pos (by omega), if_pos (by rw [wr1 (by simp) (by simp)]; simp)]) ?_
      exact happ [] (Nat.zero_le _) _ ih
    · rw [List.concat_eq_append] at ho ih happ ⊢
      have hil : i.length < n := by rw [List.length_append] at ho; simp at ho; omega
      have eL : ((i ++ [x]).length : Int) = (i.length : Int) + 1 := by simp
      have e2 : wrap64 (((i ++ [x]).length : Int) - 1) = (i.length : Int) := by rw [eL, wr1 (by omega) (by omega)]; omega
      have e3 : (i.length : Int) < ((i ++ [x]).length : Int) := by omega
      clear eL
      by_cases h1 : x.f1.toList = []
      · have ht : touch x S[n] = true := by unfold touch hi; rw [h1]; rfl
        have hx : ext x S[n] = x := by unfold ext hi; rw [h1]; rfl
        rw [stp_snoc, if_pos ht, hx] at ih ⊢
        refine Ev.step (fun k => by simp only [cressetref05_Union.l2]; rw [if_pos (by omega), e2, if_neg (by omega), if_pos (by omega), if_pos e3, rd_last, if_pos h1]) ?_
        refine Ev.step (fun k => by simp only [cressetref05_Union.j4]; rw [if_neg (by decide), if_pos (by omega), if_pos e3, rd_last, if_pos h1]) ?_
        exact j5_ev S hS n hn i x (by omega) false _ ih
      · have hne : (hi x).isEmpty = false := by unfold hi; cases h9 : x.f1.toList with
          | nil => exact absurd h9 h1
          | cons _ _ => rfl
        refine Ev.step (fun k => by simp only [cressetref05_Union.l2]; rw [if_pos (by omega), e2, if_neg (by omega), if_pos (by omega), if_pos e3, rd_last, if_neg h1, if_pos (by omega), rd27 S n hn]) ?_
        by_cases h2 : Op.bytesLess x.f1.toList S[n].f0.toList = true
        · have ht : touch x S[n] = false := by unfold touch; rw [hne]; unfold hi lo bl; rw [h2]; rfl
          rw [stp_snoc, ht] at ih happ ⊢
          rw [h2]
          exact happ _ ho _ ih
        · have ht : touch x S[n] = true := by unfold touch; rw [hne]; unfold hi lo bl; rw [Bool.eq_false_iff.2 h2]; rfl
          rw [stp_snoc, if_pos ht] at ih ⊢
          rw [Bool.eq_false_iff.2 h2]
          by_cases h3 : S[n].f1.toList = []
          · have hx : ext x S[n] = ⟨x.f0, S[n].f1⟩ := by unfold ext; rw [hne, if_pos]; unfold hi; rw [h3]; rfl
            rw [hx] at ih ⊢
            refine Ev.step (fun k => by simp only [cressetref05_Union.j4]; rw [if_neg (by decide), if_pos (by omega), if_pos e3, rd_last, if_neg h1, if_pos (by omega), if_pos (by omega), rd27 S n hn, if_pos h3]) ?_
            exact j5_ev S hS n hn i x (by omega) true _ ih
          · refine Ev.step (fun k => by simp only [cressetref05_Union.j4]; rw [if_neg (by decide), if_pos (by omega), if_pos e3, rd_last, if_neg h1, if_pos (by omega), if_pos (by omega), rd27 S n hn, if_neg h3]) ?_
            by_cases h4 : Op.bytesLess x.f1.toList S[n].f1.toList = true
            · have hx : ext x S[n] = ⟨x.f0, S[n].f1⟩ := by unfold ext; rw [hne, if_pos]; unfold hi bl; rw [h4]; simp
              rw [hx] at ih ⊢
              rw [h4]
              exact j5_ev S hS n hn i x (by omega) true _ ih
            · have hx : ext x S[n] = x := by
                unfold ext
                rw [if_neg]
                unfold hi bl
                rw [Bool.eq_false_iff.2 h4]
                cases h9 : S[n].f1.toList with
                | nil => exact absurd h9 h3
                | cons _ _ => simp
              rw [hx] at ih ⊢
              rw [Bool.eq_false_iff.2 h4]
              exact j5_ev S hS n hn i x (by omega) false _ ih
theorem l0_loop (l : List S27) (hl : l.length ≤ 1048576) : ∀ (d i : Nat) (S : List S27), i + d = l.length → S.length ≤ i → Ev (fun k => cressetref05_Union.l0 k l S (i : Int)) (((full (l.drop i)).foldl insr S).foldl stp [])
  | 0, i, S, h, hS => by
    rw [List.drop_of_length_le (by omega)]
    have := l2_loop S (by omega) S.length 0 [] (by omega) (Nat.le_refl _)
    rw [List.drop_zero] at this
    refine Ev.step (fun k => ?_) this
    simp only [cressetref05_Union.l0]
    rw [if_neg (by omega)]
    rfl
  | d + 1, i, S, h, hS => by
    have hn : i < l.length := by omega
    have e : wrap64 ((i : Int) + 1) = ((i + 1 : Nat) : Int) := by rw [wr1 (by omega) (by omega)]; omega
    rw [List.drop_eq_getElem_cons hn]
    by_cases he : emp (lo l[i]) (hi l[i]) = true
    · have ih := l0_loop l hl d (i + 1) S (by omega) (by omega)
      have hf : full (l[i] :: l.drop (i + 1)) = full (l.drop (i + 1)) := by unfold full; rw [List.filter_cons, he]; rfl
      rw [hf]
      refine Ev.step (fun k => ?_) ih
      simp only [cressetref05_Union.l0]
      rw [if_pos (by omega), if_pos (by omega), rd27 l i hn, empty_ref, empty_eq, Option.bind_some, if_pos (show emp l[i].f0.toList l[i].f1.toList = true from he), e]
    · have hf : full (l[i] :: l.drop (i + 1)) = l[i] :: full (l.drop (i + 1)) := by unfold full; rw [List.filter_cons, Bool.eq_false_iff.2 he]; rfl
      rw [hf, List.foldl_cons]
      have ih := l0_loop l hl d (i + 1) (insr S l[i]) (by omega) (by unfold insr; rw [insAt_len]; omega)
      refine Ev.step (fun k => ?_) (l1_loop l S hl (by omega) i hn _ S.length 0 (by omega) ih)
      simp only [cressetref05_Union.l0]
      rw [if_pos (by omega), if_pos (by omega), rd27 l i hn, empty_ref, empty_eq, Option.bind_some, if_neg (show ¬ emp l[i].f0.toList l[i].f1.toList = true from he)]
      rfl
theorem insr_perm (S : List S27) (r : S27) : (insr S r).Perm (r :: S) := by
  unfold insr insAt
  rw [List.append_assoc]
  have h1 : (S.take (posF S r 0) ++ ([r] ++ S.drop (posF S r 0))).Perm ([r] ++ (S.take (posF S r 0) ++ S.drop (posF S r 0))) := List.perm_append_comm_assoc _ _ _
  rw [List.take_append_drop] at h1
  exact h1
theorem insr_sorted (S : List S27) (r : S27) (h : S.Pairwise (fun x y => bl (lo y) (lo x) = false)) : (insr S r).Pairwise (fun x y => bl (lo y) (lo x) = false) := by
  have ht : S.take (posF S r 0) = S.takeWhile (qle r) := by
    unfold posF
    rw [List.drop_zero, Nat.zero_add]
    exact (List.prefix_iff_eq_take.1 (List.takeWhile_prefix _)).symm
  have hd : S.drop (posF S r 0) = S.dropWhile (qle r) := by
    have h1 := List.take_append_drop (posF S r 0) S
    have h2 := List.takeWhile_append_dropWhile (p := qle r) (l := S)
    rw [ht] at h1
    exact List.append_cancel_left (h1.trans h2.symm)
  unfold insr insAt
  rw [ht, hd]
  rw [← List.takeWhile_append_dropWhile (p := qle r) (l := S), List.pairwise_append] at h
  obtain ⟨ha, hb, hc⟩ := h
  rw [List.pairwise_append, List.pairwise_append]
  have h1 : ∀ x ∈ S.takeWhile (qle r), bl (lo r) (lo x) = false := fun x hx => by
    have := List.all_eq_true.1 (List.all_takeWhile (p := qle r) (l := S)) x hx
    unfold qle at this
    simpa using this
  have h2 : ∀ y ∈ S.dropWhile (qle r), bl (lo y) (lo r) = false := by
    intro y hy
    cases hs : S.dropWhile (qle r) with
    | nil => rw [hs] at hy; simp at hy
    | cons z t =>
      have hz : qle r z = false := by
        have := List.head?_dropWhile_not (qle r) S
        rw [hs] at this
        simpa using this
      have hz2 : bl (lo r) (lo z) = true := by unfold qle at hz; simpa using hz
      rw [hs] at hy hb
      rcases List.mem_cons.1 hy with rfl | hy
      · exact bl_not hz2
      · exact bl_not (bl_lt_le hz2 ((List.pairwise_cons.1 hb).1 y hy))
  refine ⟨⟨ha, List.pairwise_singleton _ _, fun x hx y hy => by rw [List.mem_singleton.1 hy]; exact h1 x hx⟩, hb, fun x hx y hy => ?_⟩
  rcases List.mem_append.1 hx with hx | hx
  · exact hc x hx y hy
  · rw [List.mem_singleton.1 hx]; exact h2 y hy
theorem ins_spec : ∀ (F S : List S27), S.Pairwise (fun x y => bl (lo y) (lo x) = false) → (F.foldl insr S).Pairwise (fun x y => bl (lo y) (lo x) = false) ∧ (F.foldl insr S).Perm (F ++ S)
  | [], S, h => ⟨h, List.Perm.refl _⟩
  | r :: F, S, h => by
    obtain ⟨h1, h2⟩ := ins_spec F (insr S r) (insr_sorted S r h)
    refine ⟨h1, h2.trans ?_⟩
    have h3 : (F ++ insr S r).Perm (F ++ (r :: S)) := (insr_perm S r).append_left F
    refine h3.trans ?_
    exact List.perm_middle
theorem uniR_eq (l : List S27) : ((full l).foldl insr []).foldl stp [] = uni l := by
  obtain ⟨h1, h2⟩ := ins_spec (full l) [] List.Pairwise.nil
  rw [List.append_nil] at h2
  obtain ⟨h3, h4⟩ := merge_spec ((full l).foldl insr []) (fun x hx => full_ne x (h2.mem_iff.1 hx)) h1
  obtain ⟨h5, h6⟩ := uni_spec l
  refine canon_one _ _ h3 h5 (fun s => ?_)
  rw [h4, h6, ← full_any l s, Bool.eq_iff_iff, List.any_eq_true, List.any_eq_true]
  exact ⟨fun ⟨x, hx, h⟩ => ⟨x, h2.mem_iff.1 hx, h⟩, fun ⟨x, hx, h⟩ => ⟨x, h2.mem_iff.2 hx, h⟩⟩
theorem uniR_ev (l : List S27) (hl : l.length ≤ 1048576) : Ev (fun k => cressetref05_Union.f k l) (uni l) := by
  have := l0_loop l hl l.length 0 [] (by omega) (Nat.le_refl _)
  rw [List.drop_zero, uniR_eq] at this
  exact this
/-! the difference -/
def mr1 (a b : ByteArray) (x : S27) : List S27 := if emp (lo x) (hi x) = true then [] else (if bl (lo x) a.toList = true then [⟨x.f0, lo2 x.f1 a⟩] else []) ++ (if b.toList = [] then [] else [⟨if bl (lo x) b.toList = true then b else x.f0, x.f1⟩])
def mrs (l : List S27) (a b : ByteArray) : List S27 := l.flatMap (mr1 a b)
theorem mr1_any (a b : ByteArray) (x : S27) (s : List UInt8) : (mr1 a b x).any (inR · s) = (inR x s && !(inn a.toList b.toList s)) := by
  unfold mr1
  by_cases he : emp (lo x) (hi x) = true
  · rw [if_pos he]
    have : inR x s = false := by rw [Bool.eq_false_iff]; intro h; rw [ne_of_in h] at he; cases he
    rw [this]
    rfl
  · rw [if_neg he, List.any_append]
    have h1 : (if bl (lo x) a.toList = true then [(⟨x.f0, lo2 x.f1 a⟩ : S27)] else []).any (inR · s) = (inR x s && bl s a.toList) := by
      rw [Bool.eq_iff_iff, Bool.and_eq_true]
      unfold inR
      rw [inn_def]
      by_cases h2 : bl (lo x) a.toList = true
      · have ha : a.toList ≠ [] := by intro h; rw [h, bl_nil] at h2; cases h2
        rw [if_pos h2, List.any_cons, List.any_nil, Bool.or_false, inn_def]
        show (bl s (lo x) = false ∧ ((lo2 x.f1 a).toList = [] ∨ bl s (lo2 x.f1 a).toList = true)) ↔ _
        unfold lo2
        rw [if_neg ha]
        by_cases h3 : x.f1.toList = []
        · rw [if_pos h3]
          constructor
          · rintro ⟨h4, h5⟩; exact ⟨⟨h4, .inl h3⟩, h5.resolve_left ha⟩
          · rintro ⟨⟨h4, _⟩, h5⟩; exact ⟨h4, .inr h5⟩
        · rw [if_neg h3]
          by_cases h6 : bl a.toList x.f1.toList = true
          · rw [if_pos h6]
            constructor
            · rintro ⟨h4, h5⟩; exact ⟨⟨h4, .inr (bl_trans (h5.resolve_left ha) h6)⟩, h5.resolve_left ha⟩
            · rintro ⟨⟨h4, _⟩, h5⟩; exact ⟨h4, .inr h5⟩
          · rw [if_neg h6]
            constructor
            · rintro ⟨h4, h5⟩; exact ⟨⟨h4, h5⟩, bl_lt_le (h5.resolve_left h3) (Bool.eq_false_iff.2 h6)⟩
            · rintro ⟨h4, _⟩; exact h4
      · rw [if_neg h2]
        constructor
        · intro h; simp at h
        · rintro ⟨⟨h4, _⟩, h5⟩
          exact absurd (bl_le_lt h4 h5) h2
    have h2 : (if b.toList = [] then [] else [(⟨if bl (lo x) b.toList = true then b else x.f0, x.f1⟩ : S27)]).any (inR · s) = (inR x s && (!b.toList.isEmpty && !(bl s b.toList))) := by
      rw [Bool.eq_iff_iff, Bool.and_eq_true]
      unfold inR
      rw [inn_def]
      by_cases hb : b.toList = []
      · rw [if_pos hb, hb]
        simp
      · have hbe : b.toList.isEmpty = false := by cases h : b.toList with
          | nil => exact absurd h hb
          | cons _ _ => rfl
        rw [if_neg hb, List.any_cons, List.any_nil, Bool.or_false, inn_def, hbe]
        show (bl s (if bl (lo x) b.toList = true then b else x.f0).toList = false ∧ (hi x = [] ∨ bl s (hi x) = true)) ↔ _
        by_cases h3 : bl (lo x) b.toList = true
        · rw [if_pos h3]
          constructor
          · rintro ⟨h4, h5⟩; exact ⟨⟨bl_le_trans (bl_not h3) h4, h5⟩, by rw [h4]; rfl⟩
          · rintro ⟨⟨_, h5⟩, h4⟩; exact ⟨by simpa using h4, h5⟩
        · rw [if_neg h3]
          show (bl s (lo x) = false ∧ (hi x = [] ∨ bl s (hi x) = true)) ↔ _
          constructor
          · rintro ⟨h4, h5⟩; exact ⟨⟨h4, h5⟩, by rw [bl_le_trans (Bool.eq_false_iff.2 h3) h4]; rfl⟩
          · rintro ⟨h4, _⟩; exact h4
    rw [h1, h2]
    unfold inn
    cases inR x s <;> cases bl s a.toList <;> cases bl s b.toList <;> cases b.toList.isEmpty <;> rfl
theorem mrs_any (a b : ByteArray) (s : List UInt8) : ∀ l : List S27, (mrs l a b).any (inR · s) = (l.any (inR · s) && !(inn a.toList b.toList s))
  | [] => rfl
  | x :: l => by
    have ih := mrs_any a b s l
    unfold mrs at ih ⊢
    rw [List.flatMap_cons, List.any_append, ih, mr1_any, List.any_cons]
    cases inR x s <;> cases l.any (inR · s) <;> simp
theorem uni_mrs (l : List S27) (a b : ByteArray) : uni (mrs l a b) = uni (mns l a b) := by
  obtain ⟨h1, h2⟩ := uni_spec (mrs l a b)
  obtain ⟨h3, h4⟩ := uni_spec (mns l a b)
  exact canon_one _ _ h1 h3 (fun s => by rw [h2, h4, mrs_any, mns_any])
theorem mr1_len (a b : ByteArray) (x : S27) : (mr1 a b x).length ≤ 2 := by
  unfold mr1
  split
  · simp
  · rw [List.length_append]
    have h1 : (if bl (lo x) a.toList = true then [(⟨x.f0, lo2 x.f1 a⟩ : S27)] else []).length ≤ 1 := by split <;> simp
    have h2 : (if b.toList = [] then [] else [(⟨if bl (lo x) b.toList = true then b else x.f0, x.f1⟩ : S27)]).length ≤ 1 := by split <;> simp
    omega
theorem minusR_loop (l : List S27) (hl : l.length ≤ 500000) (a b : ByteArray) : ∀ (d n : Nat) (out : List S27), n + d = l.length → out.length ≤ 2 * n → Ev (fun k => cressetref05_Minus.l0 k l out (n : Int) a b) (uni (out ++ mrs (l.drop n) a b))
  | 0, n, out, h, ho => by
    rw [List.drop_of_length_le (by omega)]
    refine Ev.step (f := fun k => (cressetref05_Union.f k out).bind fun t => some t) (fun k => ?_) ?_
    · simp only [cressetref05_Minus.l0]
      rw [if_neg (by omega)]
    · refine Ev.bind (uniR_ev out (by omega)) ?_
      simp only [mrs, List.flatMap_nil, List.append_nil]
      exact Ev.now _
  | d + 1, n, out, h, ho => by
    have hn : n < l.length := by omega
    have e : wrap64 ((n : Int) + 1) = ((n + 1 : Nat) : Int) := by rw [wr1 (by omega) (by omega)]; omega
    have hm := mr1_len a b l[n]
    have ih := minusR_loop l hl a b d (n + 1) (out ++ mr1 a b l[n]) (by omega) (by rw [List.length_append]; omega)
    have e2 : out ++ mrs (l.drop n) a b = out ++ mr1 a b l[n] ++ mrs (l.drop (n + 1)) a b := by
      rw [List.drop_eq_getElem_cons hn]
      simp only [mrs, List.flatMap_cons, List.append_assoc]
    rw [e2]
    generalize uni (out ++ mr1 a b l[n] ++ mrs (l.drop (n + 1)) a b) = res at ih ⊢
    refine Ev.step (fun k => by simp only [cressetref05_Minus.l0]; rw [if_pos (by omega), if_pos (by omega), rd27 l n hn, empty_ref, empty_eq]) ?_
    simp only [Option.bind_some]
    unfold mr1 at ih
    by_cases he : emp l[n].f0.toList l[n].f1.toList = true
    · rw [if_pos (show emp (lo l[n]) (hi l[n]) = true from he), List.append_nil] at ih
      simp only [he, if_true, e]
      exact ih
    · rw [if_neg (show ¬ emp (lo l[n]) (hi l[n]) = true from he)] at ih
      simp only [if_neg he]
      have hj : ∀ o : List S27, o.length < 4398046511000 → Ev (fun k => cressetref05_Minus.l0 k l (o ++ (if b.toList = [] then [] else [(⟨if bl (lo l[n]) b.toList = true then b else l[n].f0, l[n].f1⟩ : S27)])) ((n + 1 : Nat) : Int) a b) res → Ev (fun k => cressetref05_Minus.j1 k l o (n : Int) a b l[n].f0 l[n].f1) res := by
        intro o ho h
        refine Ev.step (fun k => ?_) h
        simp only [cressetref05_Minus.j1]
        by_cases hb : b.toList = []
        · rw [if_pos hb, if_pos hb, List.append_nil, e]
        · rw [if_neg hb, if_neg hb]
          by_cases h5 : Op.bytesLess l[n].f0.toList b.toList = true
          · rw [if_pos h5, if_pos (by omega), e]
            rw [if_pos (show bl (lo l[n]) b.toList = true from h5)]
          · rw [if_neg h5, if_pos (by omega), e]
            rw [if_neg (show ¬ bl (lo l[n]) b.toList = true from h5)]
      by_cases h1 : Op.bytesLess l[n].f0.toList a.toList = true
      · rw [if_pos (show bl (lo l[n]) a.toList = true from h1)] at ih
        simp only [if_pos h1, least_eq, Option.bind_some, if_pos (show out.length < 4398046511104 by omega)]
        refine hj _ (by simp; omega) ?_
        rw [List.append_assoc]
        exact ih
      · rw [if_neg (show ¬ bl (lo l[n]) a.toList = true from h1), List.nil_append] at ih
        simp only [if_neg h1]
        exact hj _ (by omega) ih
theorem minusR_ev (l : List S27) (hl : l.length ≤ 500000) (a b : ByteArray) : Ev (fun k => cressetref05_Minus.f k l a b) (minus l a b) := by
  unfold minus
  by_cases h : emp a.toList b.toList = true
  · rw [if_pos h]
    refine Ev.congr (f := fun k => (cressetref05_Union.f k l).bind fun t => some t) (fun k => ?_) (Ev.bind (uniR_ev l (by omega)) (Ev.now _))
    unfold cressetref05_Minus.f
    rw [empty_ref, empty_eq, Option.bind_some, if_pos h]
  · rw [if_neg h, ← uni_mrs]
    have := minusR_loop l hl a b l.length 0 [] (by omega) (by simp)
    rw [List.drop_zero, List.nil_append] at this
    refine Ev.congr (f := fun k => cressetref05_Minus.l0 k l ([] : List S27) 0 a b) (fun k => ?_) this
    unfold cressetref05_Minus.f
    rw [empty_ref, empty_eq, Option.bind_some, if_neg h]
theorem same_loop (l : List S27) (hl : l.length ≤ 9223372036854775000) : ∀ (d n : Nat), n + d = l.length → Ev (fun k => cressetref05_Same.l0 k l l (n : Int)) true
  | 0, n, h => by
    refine Ev.step (f := fun _ => some true) (fun k => ?_) (Ev.now _)
    simp only [cressetref05_Same.l0]
    rw [if_neg (by omega)]
  | d + 1, n, h => by
    have e : wrap64 ((n : Int) + 1) = ((n + 1 : Nat) : Int) := by rw [wr1 (by omega) (by omega)]; omega
    refine Ev.step (fun k => ?_) (same_loop l hl d (n + 1) (by omega))
    simp only [cressetref05_Same.l0]
    rw [if_pos (by omega), if_pos (by omega), if_pos (by omega), if_neg (by simp), e]
theorem same_ev (l : List S27) (hl : l.length ≤ 9223372036854775000) : Ev (fun k => cressetref05_Same.f k l l) true := by
  refine Ev.congr (f := fun k => cressetref05_Same.l0 k l l 0) (fun k => ?_) (same_loop l hl l.length 0 (by omega))
  unfold cressetref05_Same.f
  rw [if_pos rfl]
theorem hitsR_loop (l : List S27) (hl : l.length ≤ 9223372036854775000) (s : ByteArray) : ∀ (d n : Nat), n + d = l.length → Ev (fun k => cressetref05_Hits.l0 k l s (n : Int)) ((l.drop n).any (inR · s.toList))
  | 0, n, h => by
    rw [List.drop_of_length_le (by omega)]
    refine Ev.step (f := fun _ => some false) (fun k => ?_) (Ev.now _)
    simp only [cressetref05_Hits.l0]
    rw [if_neg (by omega)]
  | d + 1, n, h => by
    have hn : n < l.length := by omega
    have e : wrap64 ((n : Int) + 1) = ((n + 1 : Nat) : Int) := by rw [wr1 (by omega) (by omega)]; omega
    have ih := hitsR_loop l hl s d (n + 1) (by omega)
    rw [List.drop_eq_getElem_cons hn, List.any_cons]
    have e1 : inn l[n].f0.toList l[n].f1.toList s.toList = inR l[n] s.toList := rfl
    by_cases hq : inR l[n] s.toList = true
    · refine Ev.step (f := fun _ => some true) (fun k => ?_) (by rw [hq]; exact Ev.now _)
      simp only [cressetref05_Hits.l0]
      rw [if_pos (by omega), if_pos (by omega), rd27 l n hn, in_ref, in_eq, Option.bind_some, e1, if_pos hq]
    · rw [Bool.eq_false_iff.2 hq, Bool.false_or]
      refine Ev.step (fun k => ?_) ih
      simp only [cressetref05_Hits.l0]
      rw [if_pos (by omega), if_pos (by omega), rd27 l n hn, in_ref, in_eq, Option.bind_some, e1, if_neg hq, e]
end Go.Proofs.Ytmgbmnjjkcljhaa.Lib

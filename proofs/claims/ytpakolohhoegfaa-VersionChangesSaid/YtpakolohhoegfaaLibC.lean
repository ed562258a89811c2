/-
Pruned versions: both sides by one plain function, and what it keeps.
-/
import Derived.Test.YtpakolohhoegfaaBx3
import Derived.Test.YtpakolohhoegfaaLibA
namespace Go.Proofs.Ytpakolohhoegfaa.Lib
open Go.RowKit Go.Proofs.Ytpakolohhoegfaa.B Go.Proofs.YtpakolohhoegfaaW.PrintWords Go.Proofs.YtpakolohhoegfaaW.PrintLast
set_option linter.unusedVariables false
set_option linter.unusedSimpArgs false
theorem eta33 (x : S33) : (⟨x.f0, x.f1, x.f2⟩ : S33) = x := rfl
def prn (mark : Int) : Bool → List S33 → List S33 × List S33
  | _, [] => ([], [])
  | f, x :: l => if x.f0 > mark then (x :: (prn mark f l).1, (prn mark f l).2) else if f = false ∧ x.f2 = false then (x :: (prn mark true l).1, (prn mark true l).2) else ((prn mark true l).1, x :: (prn mark true l).2)
theorem prune_loop (l : List S33) (mark : Int) (hl : l.length ≤ 4398046511000) : ∀ (d n : Nat) (K G : List S33) (f : Bool), n + d = l.length → K.length ≤ n → G.length ≤ n → Ev (fun k => version_Prune.l0 k mark K G f l (l.length : Int) (n : Int)) (K ++ (prn mark f (l.drop n)).1, G ++ (prn mark f (l.drop n)).2)
  | 0, n, K, G, f, h, _, _ => by
    rw [List.drop_of_length_le (by omega)]
    simp only [prn, List.append_nil]
    refine Ev.step (f := fun _ => some (K, G)) (fun k => ?_) (Ev.now _)
    simp only [version_Prune.l0]
    rw [if_neg (by omega)]
  | d + 1, n, K, G, f, h, hK, hG => by
    have hn : n < l.length := by omega
    have e : wrap64 ((n : Int) + 1) = ((n + 1 : Nat) : Int) := by rw [wr1 (by omega) (by omega)]; omega
    rw [List.drop_eq_getElem_cons hn]
    have stepK : ∀ g : Bool, Ev (fun k => version_Prune.l0 k mark (K ++ [l[n]]) G g l (l.length : Int) ((n + 1 : Nat) : Int)) (K ++ (l[n] :: (prn mark g (l.drop (n + 1))).1), G ++ (prn mark g (l.drop (n + 1))).2) := by
      intro g
      have := prune_loop l mark hl d (n + 1) (K ++ [l[n]]) G g (by omega) (by simp; omega) (by omega)
      rwa [List.append_assoc, List.singleton_append] at this
    have stepG : ∀ g : Bool, Ev (fun k => version_Prune.l0 k mark K (G ++ [l[n]]) g l (l.length : Int) ((n + 1 : Nat) : Int)) (K ++ (prn mark g (l.drop (n + 1))).1, G ++ (l[n] :: (prn mark g (l.drop (n + 1))).2)) := by
      intro g
      have := prune_loop l mark hl d (n + 1) K (G ++ [l[n]]) g (by omega) (by omega) (by simp; omega)
      rwa [List.append_assoc, List.singleton_append] at this
    refine Ev.step (fun k => by simp only [version_Prune.l0]; rw [if_pos (by omega), if_pos (by omega), if_pos (by omega), rd33 l n hn]) ?_
    simp only [eta33, if_pos (show K.length < 4398046511104 by omega), if_pos (show G.length < 4398046511104 by omega), e]
    by_cases h1 : l[n].f0 > mark
    · simp only [prn, if_pos h1]
      cases f with
      | true => simp only [if_true]; exact stepK true
      | false =>
        simp only [Bool.false_eq_true, if_false, decide_eq_false (show ¬ l[n].f0 ≤ mark by omega)]
        exact stepK false
    · simp only [prn, if_neg h1]
      cases f with
      | true => simp only [if_true, Bool.true_eq_false, false_and, if_false]; exact stepG true
      | false =>
        simp only [Bool.false_eq_true, if_false, true_and, decide_eq_true (show l[n].f0 ≤ mark by omega)]
        cases h2 : l[n].f2 with
        | true => simp only [if_true, Bool.true_eq_false, if_false]; exact stepG true
        | false => simp only [Bool.false_eq_true, if_false, if_true]; exact stepK true
theorem prune_ev (l : List S33) (mark : Int) (hl : l.length ≤ 4398046511000) : Ev (fun k => version_Prune.f k l mark) (prn mark false l) := prune_loop l mark hl l.length 0 [] [] false (by omega) (Nat.le_refl _) (Nat.le_refl _)
theorem prn_len (mark : Int) : ∀ (l : List S33) (f : Bool), (prn mark f l).1.length + (prn mark f l).2.length = l.length
  | [], _ => rfl
  | x :: l, f => by
    have h1 := prn_len mark l f
    have h2 := prn_len mark l true
    unfold prn
    split
    · simp only [List.length_cons]; omega
    · split <;> simp only [List.length_cons] <;> omega
theorem prn_sub (mark : Int) : ∀ (l : List S33) (f : Bool), (prn mark f l).1.Sublist l
  | [], _ => List.Sublist.refl _
  | x :: l, f => by
    have h1 := prn_sub mark l f
    have h2 := prn_sub mark l true
    unfold prn
    split
    · exact h1.cons_cons _
    · split
      · exact h2.cons_cons _
      · exact h2.cons _
theorem prn_above (mark : Int) : ∀ (l : List S33), ∀ x ∈ (prn mark true l).1, x.f0 > mark
  | [], x, hx => by simp [prn] at hx
  | y :: l, x, hx => by
    have ih := prn_above mark l
    unfold prn at hx
    split at hx
    · rcases List.mem_cons.1 hx with rfl | hx
      · assumption
      · exact ih x hx
    · rw [if_neg (by simp)] at hx
      exact ih x hx
theorem prn_all (mark : Int) : ∀ (l : List S33) (f : Bool), (∀ x ∈ l, x.f0 > mark) → prn mark f l = (l, [])
  | [], _, _ => rfl
  | x :: l, f, h => by
    unfold prn
    rw [if_pos (h x (by simp)), prn_all mark l f (fun y hy => h y (by simp [hy]))]
theorem prn_again (mark : Int) : ∀ (l : List S33) (f : Bool), prn mark f (prn mark f l).1 = ((prn mark f l).1, [])
  | [], _ => rfl
  | x :: l, f => by
    have ih := prn_again mark l
    by_cases h1 : x.f0 > mark
    · have e : prn mark f (x :: l) = (x :: (prn mark f l).1, (prn mark f l).2) := by rw [prn, if_pos h1]
      rw [e]
      show prn mark f (x :: (prn mark f l).1) = _
      rw [prn, if_pos h1, ih f]
    · by_cases h2 : f = false ∧ x.f2 = false
      · have e : prn mark f (x :: l) = (x :: (prn mark true l).1, (prn mark true l).2) := by rw [prn, if_neg h1, if_pos h2]
        rw [e]
        show prn mark f (x :: (prn mark true l).1) = _
        rw [prn, if_neg h1, if_pos h2, ih true]
      · have e : prn mark f (x :: l) = ((prn mark true l).1, x :: (prn mark true l).2) := by rw [prn, if_neg h1, if_neg h2]
        rw [e]
        exact prn_all mark _ f (prn_above mark l)
/-! lists that may be -/
def Good (l : List S33) : Prop := l.length ≤ 1024 ∧ (∀ x ∈ l, vmay x = true) ∧ l.Pairwise (fun x y => y.f0 < x.f0)
theorem ck_good (l : List S33) : ∀ (d n : Nat), n + d = l.length → (ck l d n = 0 ↔ ∀ i, n ≤ i → (hi : i < l.length) → vmay l[i] = true ∧ (∀ (h0 : 0 < i), l[i].f0 < (l[i - 1]'(by omega)).f0))
  | 0, n, h => by
    constructor
    · intro _ i hn hi; omega
    · intro _; rfl
  | d + 1, n, h => by
    have hn : n < l.length := by omega
    have ih := ck_good l d (n + 1) (by omega)
    unfold ck
    rw [gt_eq l n hn]
    by_cases h1 : vmay l[n] = true
    · rw [if_pos h1]
      by_cases h2 : 0 < n ∧ l[n].f0 ≥ (gt l (n - 1)).f0
      · rw [if_pos h2]
        refine ⟨fun h => (by cases h), fun h => ?_⟩
        have h3 := (h n (Nat.le_refl _) hn).2 h2.1
        have h4 := h2.2
        rw [gt_eq l (n - 1) (by omega)] at h4
        omega
      · rw [if_neg h2, ih]
        refine ⟨fun h i hi hl => ?_, fun h i hi hl => h i (by omega) hl⟩
        by_cases e : i = n
        · subst e
          refine ⟨h1, fun h0 => ?_⟩
          rw [gt_eq l (i - 1) (by omega)] at h2
          omega
        · exact h i (by omega) hl
    · rw [if_neg h1]
      exact ⟨fun h => (by cases h), fun h => absurd (h n (Nat.le_refl _) hn).1 h1⟩
theorem chk_good (l : List S33) : chk l = 0 ↔ Good l := by
  unfold chk Good
  by_cases h : l.length > 1024
  · rw [if_pos h]
    exact ⟨fun h => (by cases h), fun hg => absurd hg.1 (by omega)⟩
  · rw [if_neg h, ck_good l l.length 0 (by omega)]
    constructor
    · intro hi
      refine ⟨by omega, fun x hx => ?_, ?_⟩
      · obtain ⟨i, hi2, rfl⟩ := List.mem_iff_getElem.1 hx
        exact (hi i (Nat.zero_le _) hi2).1
      · rw [List.pairwise_iff_getElem]
        intro i j hil hjl hij
        obtain ⟨d, rfl⟩ : ∃ d, j = i + 1 + d := ⟨j - (i + 1), by omega⟩
        induction d with
        | zero => exact (hi (i + 1) (by omega) hjl).2 (by omega)
        | succ d ih =>
          have h1 := ih (by omega) (by omega)
          have h2 := (hi (i + 1 + (d + 1)) (by omega) hjl).2 (by omega)
          have h3 : (l[i + 1 + (d + 1) - 1]'(by omega)) = l[i + 1 + d]'(by omega) := by congr 1
          rw [h3] at h2
          omega
    · rintro ⟨_, hm, hp⟩ i _ hil
      refine ⟨hm _ (List.getElem_mem hil), fun h0 => ?_⟩
      exact List.pairwise_iff_getElem.1 hp (i - 1) i (by omega) hil (by omega)
theorem good_sub {l m : List S33} (h : Good l) (hs : m.Sublist l) : Good m := ⟨Nat.le_trans hs.length_le h.1, fun x hx => h.2.1 x (hs.subset hx), h.2.2.sublist hs⟩
theorem value_prn (mark t : Int) (ht : mark ≤ t) : ∀ l : List S33, l.Pairwise (fun x y => y.f0 < x.f0) → value (prn mark false l).1 t = value l t
  | [], _ => rfl
  | x :: l, hp => by
    obtain ⟨h1, h2⟩ := List.pairwise_cons.1 hp
    have ih := value_prn mark t ht l h2
    by_cases hx : x.f0 > mark
    · have e : (prn mark false (x :: l)).1 = x :: (prn mark false l).1 := by rw [prn, if_pos hx]
      rw [e]
      by_cases hxt : x.f0 ≤ t
      · unfold value
        rw [List.find?_cons, List.find?_cons, decide_eq_true hxt]
      · unfold value at ih ⊢
        rw [List.find?_cons, List.find?_cons, decide_eq_false hxt]
        exact ih
    · have hxt : x.f0 ≤ t := by omega
      cases hd : x.f2 with
      | false =>
        have e : (prn mark false (x :: l)).1 = x :: (prn mark true l).1 := by rw [prn, if_neg hx, if_pos ⟨rfl, hd⟩]
        rw [e]
        unfold value
        rw [List.find?_cons, List.find?_cons, decide_eq_true hxt]
      | true =>
        have e : (prn mark false (x :: l)).1 = (prn mark true l).1 := by rw [prn, if_neg hx, if_neg (by rw [hd]; simp)]
        have e2 : (prn mark true l).1 = [] := by
          rw [List.eq_nil_iff_forall_not_mem]
          intro y hy
          have := prn_above mark l y hy
          have := h1 y ((prn_sub mark l true).subset hy)
          omega
        rw [e, e2]
        unfold value
        rw [List.find?_cons, decide_eq_true hxt]
        simp [hd]
end Go.Proofs.Ytpakolohhoegfaa.Lib

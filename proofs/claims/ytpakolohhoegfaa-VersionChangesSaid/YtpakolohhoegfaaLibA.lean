/-
Versions: which may be, what a timestamp sees, which lists are the same: both sides by one plain function.
-/
import Derived.Test.YtpakolohhoegfaaBx6
import Derived.Test.YtpakolohhoegfaaBx5
import Derived.Test.YtpakolohhoegfaaBx7
import Derived.Test.YtpakolohhoegfaaBx4
namespace Go.Proofs.Ytpakolohhoegfaa.Lib
open Go.RowKit Go.Proofs.Ytpakolohhoegfaa.B Go.Proofs.YtpakolohhoegfaaW.PrintWords Go.Proofs.YtpakolohhoegfaaW.PrintLast
set_option linter.unusedVariables false
set_option linter.unusedSimpArgs false
theorem wr1 {x : Int} (h0 : -9223372036854775808 ≤ x) (h : x ≤ 9223372036854775807) : wrap64 x = x := by
  unfold wrap64; omega
theorem rd33 (l : List S33) (n : Nat) (h : n < l.length) : rd_T33 l (n : Int) = l[n] := by
  unfold rd_T33
  simp [List.getD_eq_getElem?_getD, List.getElem?_eq_getElem h]
def vmay (x : S33) : Bool := decide (1 ≤ x.f0) && (decide (x.f0 ≤ 1099511627776) && (decide (x.f1.size ≤ 256) && (!x.f2 || x.f1.toList == [])))
theorem val_eq (s : ByteArray) : record_Value.f s = some (if 256 < s.size then 31 else 0) := by
  unfold record_Value.f
  by_cases h : 256 < s.size
  · rw [if_pos (by omega), if_pos h]
  · rw [if_neg (by omega), if_neg h]
theorem valR_eq (s : ByteArray) : cressetref03_Value.f s = some (if 256 < s.size then 31 else 0) := by
  unfold cressetref03_Value.f
  by_cases h : 256 < s.size
  · rw [if_pos (by omega), if_pos h]
  · rw [if_neg (by omega), if_neg h]
theorem may_eq (x : S33) : version_may.f x.f0 x.f1 x.f2 = some (vmay x) := by
  unfold version_may.f vmay
  rw [val_eq]
  by_cases h1 : x.f0 ≥ 1
  · rw [if_pos h1, decide_eq_true h1, Bool.true_and]
    by_cases h2 : x.f0 ≤ 1099511627776
    · rw [if_pos h2, decide_eq_true h2, Bool.true_and, Option.bind_some]
      by_cases h3 : 256 < x.f1.size
      · rw [if_pos h3, if_neg (by decide), decide_eq_false (by omega)]; rfl
      · rw [if_neg h3, if_pos rfl, decide_eq_true (by omega), Bool.true_and]
        cases x.f2 <;> rfl
    · rw [if_neg h2, decide_eq_false h2]; rfl
  · rw [if_neg h1, decide_eq_false h1]; rfl
theorem mayR_eq (x : S33) : cressetref15_may.f x.f0 x.f1 x.f2 = some (vmay x) := by
  unfold cressetref15_may.f vmay
  rw [valR_eq]
  by_cases h1 : x.f0 ≥ 1
  · rw [if_pos h1, decide_eq_true h1, Bool.true_and]
    by_cases h2 : x.f0 ≤ 1099511627776
    · rw [if_pos h2, decide_eq_true h2, Bool.true_and, Option.bind_some]
      by_cases h3 : 256 < x.f1.size
      · rw [if_pos h3, if_neg (by decide), decide_eq_false (by omega)]; rfl
      · rw [if_neg h3, if_pos rfl, decide_eq_true (by omega), Bool.true_and]
        cases x.f2 <;> rfl
    · rw [if_neg h2, decide_eq_false h2]; rfl
  · rw [if_neg h1, decide_eq_false h1]; rfl
/-! what is wrong with a list -/
def gt (l : List S33) (n : Nat) : S33 := l.getD n z33
theorem gt_eq (l : List S33) (n : Nat) (h : n < l.length) : gt l n = l[n] := by
  unfold gt
  simp [List.getD_eq_getElem?_getD, List.getElem?_eq_getElem h]
def ck (l : List S33) : Nat → Nat → Int
  | 0, _ => 0
  | d + 1, n => if vmay (gt l n) = true then (if 0 < n ∧ (gt l n).f0 ≥ (gt l (n - 1)).f0 then 151 else ck l d (n + 1)) else 151
def chk (l : List S33) : Int := if l.length > 1024 then 3 else ck l l.length 0
theorem check_loop (l : List S33) (hl : l.length ≤ 9223372036854775000) : ∀ (d n : Nat), n + d = l.length → Ev (fun k => version_Check.l0 k l l (l.length : Int) (n : Int)) (ck l d n)
  | 0, n, h => by
    refine Ev.step (f := fun _ => some 0) (fun k => ?_) (Ev.now _)
    simp only [version_Check.l0]
    rw [if_neg (by omega)]
  | d + 1, n, h => by
    have hn : n < l.length := by omega
    have e : wrap64 ((n : Int) + 1) = ((n + 1 : Nat) : Int) := by rw [wr1 (by omega) (by omega)]; omega
    have ih := check_loop l hl d (n + 1) (by omega)
    unfold ck
    rw [gt_eq l n hn]
    refine Ev.step (fun k => by simp only [version_Check.l0]; rw [if_pos (by omega), if_pos (by omega), if_pos (by omega), rd33 l n hn, may_eq]) ?_
    simp only [Option.bind_some]
    by_cases h1 : vmay l[n] = true
    · simp only [if_pos h1]
      by_cases h0 : n = 0
      · subst h0
        simp only [if_neg (show ¬ ((0 : Nat) : Int) > 0 by omega), if_neg (show ¬ (0 < 0 ∧ l[0].f0 ≥ (gt l (0 - 1)).f0) by omega), e]
        exact ih
      · obtain ⟨m, rfl⟩ : ∃ m, n = m + 1 := ⟨n - 1, by omega⟩
        have hm : m < l.length := by omega
        have e2 : wrap64 (((m + 1 : Nat) : Int) - 1) = (m : Int) := by rw [wr1 (by omega) (by omega)]; omega
        simp only [if_pos (show ((m + 1 : Nat) : Int) > 0 by omega), e2, if_pos (show (0 : Int) ≤ m by omega), if_pos (show (m : Int) < l.length by omega), rd33 l m hm, Nat.add_sub_cancel, gt_eq l m hm, e]
        by_cases h2 : l[m + 1].f0 ≥ l[m].f0
        · simp only [if_pos h2, if_pos (show 0 < m + 1 ∧ l[m + 1].f0 ≥ l[m].f0 from ⟨by omega, h2⟩)]
          exact Ev.now _
        · simp only [if_neg h2, if_neg (show ¬ (0 < m + 1 ∧ l[m + 1].f0 ≥ l[m].f0) from fun h => h2 h.2)]
          exact ih
    · simp only [if_neg h1]
      exact Ev.now _
theorem checkR_loop (l : List S33) (hl : l.length ≤ 9223372036854775000) : ∀ (d n : Nat), n + d = l.length → Ev (fun k => cressetref15_Check.l0 k l (n : Int)) (ck l d n)
  | 0, n, h => by
    refine Ev.step (f := fun _ => some 0) (fun k => ?_) (Ev.now _)
    simp only [cressetref15_Check.l0]
    rw [if_neg (by omega)]
  | d + 1, n, h => by
    have hn : n < l.length := by omega
    have e : wrap64 ((n : Int) + 1) = ((n + 1 : Nat) : Int) := by rw [wr1 (by omega) (by omega)]; omega
    have ih := checkR_loop l hl d (n + 1) (by omega)
    unfold ck
    rw [gt_eq l n hn]
    refine Ev.step (fun k => by simp only [cressetref15_Check.l0]; rw [if_pos (by omega), if_pos (by omega), rd33 l n hn, mayR_eq]) ?_
    simp only [Option.bind_some]
    by_cases h1 : vmay l[n] = true
    · simp only [if_pos h1]
      by_cases h0 : n = 0
      · subst h0
        simp only [if_neg (show ¬ ((0 : Nat) : Int) > 0 by omega), if_neg (show ¬ (0 < 0 ∧ l[0].f0 ≥ (gt l (0 - 1)).f0) by omega), e]
        exact ih
      · obtain ⟨m, rfl⟩ : ∃ m, n = m + 1 := ⟨n - 1, by omega⟩
        have hm : m < l.length := by omega
        have e2 : wrap64 (((m + 1 : Nat) : Int) - 1) = (m : Int) := by rw [wr1 (by omega) (by omega)]; omega
        simp only [if_pos (show ((m + 1 : Nat) : Int) > 0 by omega), e2, if_pos (show (0 : Int) ≤ m by omega), if_pos (show (m : Int) < l.length by omega), rd33 l m hm, Nat.add_sub_cancel, gt_eq l m hm, e]
        by_cases h2 : l[m + 1].f0 ≥ l[m].f0
        · simp only [if_pos h2, if_pos (show 0 < m + 1 ∧ l[m + 1].f0 ≥ l[m].f0 from ⟨by omega, h2⟩)]
          exact Ev.now _
        · simp only [if_neg h2, if_neg (show ¬ (0 < m + 1 ∧ l[m + 1].f0 ≥ l[m].f0) from fun h => h2 h.2)]
          exact ih
    · simp only [if_neg h1]
      exact Ev.now _
theorem check_ev (l : List S33) : Ev (fun k => version_Check.f k l) (chk l) := by
  unfold chk
  by_cases h : l.length > 1024
  · rw [if_pos h]
    exact Ev.congr (f := fun _ => some 3) (fun k => by unfold version_Check.f; rw [if_pos (by omega)]) (Ev.now _)
  · rw [if_neg h]
    exact Ev.congr (f := fun k => version_Check.l0 k l l (l.length : Int) ((0 : Nat) : Int)) (fun k => by unfold version_Check.f; rw [if_neg (by omega)]; rfl) (check_loop l (by omega) l.length 0 (by omega))
theorem checkR_ev (l : List S33) : Ev (fun k => cressetref15_Check.f k l) (chk l) := by
  unfold chk
  by_cases h : l.length > 1024
  · rw [if_pos h]
    exact Ev.congr (f := fun _ => some 3) (fun k => by unfold cressetref15_Check.f; rw [if_pos (by omega)]) (Ev.now _)
  · rw [if_neg h]
    exact Ev.congr (f := fun k => cressetref15_Check.l0 k l ((0 : Nat) : Int)) (fun k => by unfold cressetref15_Check.f; rw [if_neg (by omega)]; rfl) (checkR_loop l (by omega) l.length 0 (by omega))
/-! what a timestamp sees -/
def seen (l : List S33) (ts : Int) : Int × ByteArray × Bool × Bool := match l.find? (fun x => decide (x.f0 ≤ ts)) with
  | none => (0, ⟨#[]⟩, false, false)
  | some x => (x.f0, x.f1, x.f2, true)
def value (l : List S33) (ts : Int) : ByteArray × Bool := match l.find? (fun x => decide (x.f0 ≤ ts)) with
  | none => (⟨#[]⟩, false)
  | some x => if x.f2 = true then (⟨#[]⟩, false) else (x.f1, true)
theorem value_seen (l : List S33) (ts : Int) : value l ts = if (seen l ts).2.2.2 = true then (if (seen l ts).2.2.1 = true then (⟨#[]⟩, false) else ((seen l ts).2.1, true)) else (⟨#[]⟩, false) := by
  unfold value seen
  cases l.find? (fun x => decide (x.f0 ≤ ts)) <;> rfl
theorem find_first {l : List S33} {p : S33 → Bool} {i : Nat} (h : i < l.length) (hp : p l[i] = true) (hn : ∀ j (hj : j < i), p (l[j]'(by omega)) = false) : l.find? p = some l[i] := by
  rw [List.find?_eq_some_iff_getElem]
  exact ⟨hp, i, h, rfl, fun j hj => by rw [hn j hj]; rfl⟩
theorem at_eq (l : List S33) (ts : Int) (hl : l.length ≤ 9223372036854775807) : version_At.f l ts = some (seen l ts) := by
  unfold version_At.f
  rw [if_pos hl]
  rcases Sl.idxI_cases (fun x : S33 => decide (x.f0 ≤ ts)) l z33 with ⟨h, hn⟩ | ⟨i, hi, h, hp, hn⟩
  · rw [h, if_pos (by decide)]
    have : l.find? (fun x => decide (x.f0 ≤ ts)) = none := by
      rw [List.find?_eq_none]
      intro x hx
      obtain ⟨j, hj, rfl⟩ := List.mem_iff_getElem.1 hx
      have := hn j hj
      rw [List.getD_eq_getElem?_getD, List.getElem?_eq_getElem hj] at this
      simpa using this
    unfold seen
    rw [this]
  · rw [h, if_neg (by omega), rd33 l i hi]
    have : l.find? (fun x => decide (x.f0 ≤ ts)) = some l[i] := find_first hi (by rw [List.getD_eq_getElem?_getD, List.getElem?_eq_getElem hi] at hp; simpa using hp) (fun j hj => by
      have := hn j hj
      rw [List.getD_eq_getElem?_getD, List.getElem?_eq_getElem (by omega)] at this
      simpa using this)
    unfold seen
    rw [this]
theorem value_eq (l : List S33) (ts : Int) (hl : l.length ≤ 9223372036854775807) : version_Value.f l ts = some (value l ts) := by
  unfold version_Value.f
  rw [at_eq l ts hl, value_seen, Option.bind_some]
  split
  · split <;> rfl
  · rfl
theorem live_ev : Ev (fun k => cressetlaw15_live.f k) true := Ev.of cressetlaw15_live.mono (k := 10) (by decide +kernel)
/-! the same -/
def eqv (x y : S33) : Bool := x.f0 == y.f0 && (x.f1.toList == y.f1.toList && x.f2 == y.f2)
theorem eqv_refl (x : S33) : eqv x x = true := by simp [eqv]
def sm (l m : List S33) : Nat → Nat → Bool
  | 0, _ => true
  | d + 1, n => eqv (gt l n) (gt m n) && sm l m d (n + 1)
def same (l m : List S33) : Bool := decide (l.length = m.length) && sm l m l.length 0
theorem sm_refl (l : List S33) : ∀ d n, sm l l d n = true
  | 0, _ => rfl
  | d + 1, n => by unfold sm; rw [eqv_refl, sm_refl l d (n + 1)]; rfl
theorem same_refl (l : List S33) : same l l = true := by unfold same; rw [sm_refl]; simp
theorem neqv (x y : S33) : (!(x.f0 == y.f0) || (!(x.f1.toList == y.f1.toList) || !(x.f2 == y.f2))) = !(eqv x y) := by
  unfold eqv
  cases x.f0 == y.f0 <;> cases x.f1.toList == y.f1.toList <;> cases x.f2 == y.f2 <;> rfl
theorem sameR_loop (l m : List S33) (hl : l.length ≤ 9223372036854775000) (hm : l.length = m.length) : ∀ (d n : Nat), n + d = l.length → Ev (fun k => cressetref15_Same.l0 k l m (n : Int)) (sm l m d n)
  | 0, n, h => by
    refine Ev.step (f := fun _ => some true) (fun k => ?_) (Ev.now _)
    simp only [cressetref15_Same.l0]
    rw [if_neg (by omega)]
  | d + 1, n, h => by
    have hn : n < l.length := by omega
    have hn2 : n < m.length := by omega
    have e : wrap64 ((n : Int) + 1) = ((n + 1 : Nat) : Int) := by rw [wr1 (by omega) (by omega)]; omega
    have ih := sameR_loop l m hl hm d (n + 1) (by omega)
    unfold sm
    rw [gt_eq l n hn, gt_eq m n hn2]
    refine Ev.step (fun k => by simp only [cressetref15_Same.l0]; rw [if_pos (by omega), if_pos (by omega), if_pos (by omega), rd33 l n hn, rd33 m n hn2, neqv]) ?_
    cases eqv l[n] m[n] with
    | true => simp only [Bool.not_true, Bool.false_eq_true, if_false, Bool.true_and, e]; exact ih
    | false => simp only [Bool.not_false, if_true, Bool.false_and]; exact Ev.now _
theorem sameR_ev (l m : List S33) (hl : l.length ≤ 9223372036854775000) : Ev (fun k => cressetref15_Same.f k l m) (same l m) := by
  unfold same
  by_cases h : l.length = m.length
  · rw [decide_eq_true h, Bool.true_and]
    exact Ev.congr (f := fun k => cressetref15_Same.l0 k l m ((0 : Nat) : Int)) (fun k => by unfold cressetref15_Same.f; rw [if_pos (by omega)]; rfl) (sameR_loop l m hl h l.length 0 (by omega))
  · rw [decide_eq_false h, Bool.false_and]
    exact Ev.congr (f := fun _ => some false) (fun k => by unfold cressetref15_Same.f; rw [if_neg (by omega)]) (Ev.now _)
end Go.Proofs.Ytpakolohhoegfaa.Lib

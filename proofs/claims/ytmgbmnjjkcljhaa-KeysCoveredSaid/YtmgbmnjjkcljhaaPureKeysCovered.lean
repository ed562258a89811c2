import Derived.Test.YtmgbmnjjkcljhaaBx7
import Derived.Test.YtmgbmnjjkcljhaaLibB
namespace Go.Proofs.Ytmgbmnjjkcljhaa.Pure
open Go.RowKit Go.Proofs.Ytmgbmnjjkcljhaa.B Go.Proofs.YtmgbmnjjkcljhaaW.PrintWords Go.Proofs.YtmgbmnjjkcljhaaW.PrintLast Go.Proofs.Ytmgbmnjjkcljhaa.Lib
set_option linter.unusedSimpArgs false
theorem meet_two (a b c d : ByteArray) (s : List UInt8) : inn (meetOf [⟨a, b⟩, ⟨c, d⟩]).1.toList (meetOf [⟨a, b⟩, ⟨c, d⟩]).2.toList s = (inn a.toList b.toList s && inn c.toList d.toList s) := by
  rw [inn_meet]
  simp
/-- behind the loop -/
theorem covered_end (a b c d : ByteArray) : Ev (fun k => ((cressetlaw05_live.f k).bind fun t167 => (if t167 = true then ((keys_Covers.f a b a b).bind fun t168 => (if t168 = true then ((keys_Meet.f k (([(⟨a, b⟩ : S27), (⟨c, d⟩ : S27)] : List (S27)))).bind fun bt172 => ((keys_Covers.f a b bt172.1 bt172.2).bind fun t174 => (if t174 = true then ((keys_Empty.f c d).bind fun t175 => (if t175 = true then (some (cov a.toList b.toList c.toList d.toList)) else (some true))) else (some false)))) else (some false))) else (some false)))) true := by
  refine Ev.bind live_ev ?_
  have h1 : cov a.toList b.toList a.toList b.toList = true := (cov_iff _ _ _ _).2 (fun s h => h)
  have h2 : cov a.toList b.toList (meetOf [⟨a, b⟩, ⟨c, d⟩]).1.toList (meetOf [⟨a, b⟩, ⟨c, d⟩]).2.toList = true := (cov_iff _ _ _ _).2 (fun s h => by
    rw [meet_two] at h
    cases h3 : inn a.toList b.toList s with
    | true => rfl
    | false => rw [h3] at h; simp at h)
  simp only [covers_eq, Option.bind_some, h1, if_true]
  refine Ev.bind (meet_ev _ (by simp)) ?_
  simp only [covers_eq, Option.bind_some, h2, if_true, empty_eq]
  by_cases h : emp c.toList d.toList = true
  · simp only [h, if_true]
    have : cov a.toList b.toList c.toList d.toList = true := by simp [cov, h]
    rw [this]
    exact Ev.now _
  · simp only [h]
    exact Ev.now _
theorem covered_loop (a b c d : ByteArray) (l : List ByteArray) (hl : l.length ≤ 9223372036854775800) : ∀ (q n : Nat), n + q = l.length → Ev (fun k => cressetlaw05_KeysCovered.l0 k (cov a.toList b.toList c.toList d.toList) l (l.length : Int) (n : Int) a b c d) true
  | 0, n, h => by
    refine Ev.step (fun k => ?_) (covered_end a b c d)
    simp only [cressetlaw05_KeysCovered.l0]
    rw [if_neg (by omega)]
  | q + 1, n, h => by
    have ih := covered_loop a b c d l hl q (n + 1) (by omega)
    have e : wrap64 ((n : Int) + 1) = ((n + 1 : Nat) : Int) := by rw [wr1 (by omega) (by omega)]; omega
    have hj : ∀ s : ByteArray, Ev (fun k => cressetlaw05_KeysCovered.j1 k (cov a.toList b.toList c.toList d.toList) s l (l.length : Int) (n : Int) false a b c d) true := by
      intro s
      refine Ev.step (fun k => by simp only [cressetlaw05_KeysCovered.j1]; rfl) ?_
      simp only [Bool.false_eq_true, if_false, e]
      refine Ev.bind (overlap_ev a b c d) ?_
      refine Ev.bind (overlap_ev c d a b) ?_
      simp only [ovl_comm c d a b, bne_self_eq_false, Bool.false_eq_true, if_false]
      refine Ev.bind (overlap_ev a b c d) ?_
      by_cases ho : ovl a b c d = true
      · simp only [ho, if_true]
        exact ih
      · simp only [ho, in_eq, Option.bind_some]
        have h0 := ovl_not (by simpa using ho : ovl a b c d = false) s.toList
        cases h1 : inn a.toList b.toList s.toList with
        | false => simpa using ih
        | true =>
          rw [h1] at h0
          have h2 : inn c.toList d.toList s.toList = false := by simpa using h0
          simpa [h2] using ih
    refine Ev.step (fun k => by simp only [cressetlaw05_KeysCovered.l0]; rfl) ?_
    simp only [if_pos (show (n : Int) < l.length by omega), if_pos (show (0 : Int) ≤ n by omega)]
    by_cases hc : cov a.toList b.toList c.toList d.toList = true
    · simp only [hc, if_true, in_eq, Option.bind_some]
      rw [hc] at hj
      cases h1 : inn c.toList d.toList (rdOf ByteArray.empty l (n : Int)).toList with
      | false => simpa using hj _
      | true =>
        have h2 := (cov_iff _ _ _ _).1 hc _ h1
        simpa [h2] using hj _
    · simp only [hc, if_false]
      have hc' : cov a.toList b.toList c.toList d.toList = false := by simpa using hc
      rw [hc'] at hj
      simpa [hc'] using hj (rdOf ByteArray.empty l (n : Int))
theorem KeysCovered : cressetlaw05_KeysCovered.Pure := by
  intro a b c d s ha hb hc hd hs
  refine Ev.rounds ?_
  unfold cressetlaw05_KeysCovered.f
  simp only [covers_eq, next_eq c (by omega), next_eq b (by omega), Option.bind_some]
  exact covered_loop a b c d _ (by simp) 7 0 rfl
end Go.Proofs.Ytmgbmnjjkcljhaa.Pure

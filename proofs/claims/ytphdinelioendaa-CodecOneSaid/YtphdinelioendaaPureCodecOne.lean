import Derived.Test.YtphdinelioendaaBx8
import Derived.Test.YtphdinelioendaaLibD
namespace Go.Proofs.Ytphdinelioendaa.Pure
open Go.RowKit Go.Proofs.Ytphdinelioendaa.B Go.Proofs.YtphdinelioendaaW.PrintWords Go.Proofs.YtphdinelioendaaW.PrintLast Go.Proofs.Ytphdinelioendaa.Lib

theorem str_size (xs : List Int) : (strOfNums xs).size = xs.length := by
  simp [strOfNums, ByteArray.size]
theorem T_ok {l : List Int} (hl : Bytes l) {s : ByteArray} {z : Int} (h : T l = (s, z, 0)) : 1 ≤ z ∧ z ≤ l.length ∧ I s.size ++ bytesOf s = l.take z.toNat := by
  unfold T at h
  generalize hP : P l = p at h
  obtain ⟨n, q, e⟩ := p
  simp only at h
  by_cases c : e = 0
  · subst c
    obtain ⟨⟨n0, n1⟩, hq, hle, hI⟩ := P_ok hl hP
    simp only [if_true] at h
    by_cases c1 : n < 0
    · rw [if_pos c1] at h; simp at h
    · rw [if_neg c1] at h
      by_cases c2 : n > (l.length : Int) - q
      · rw [if_pos c2] at h; simp at h
      · rw [if_neg c2] at h
        simp only [Prod.mk.injEq] at h
        obtain ⟨rfl, rfl, _⟩ := h
        have hx : Bytes ((l.take (q + n).toNat).drop q.toNat) := (hl.take _).drop _
        rw [bytes_str hx]
        have hsz : ((strOfNums ((l.take (q + n).toNat).drop q.toNat)).size : Int) = n := by
          rw [str_size, List.length_drop, List.length_take]
          omega
        rw [hsz, hI, show 1 + kw n = q.toNat by omega]
        refine ⟨by omega, by omega, ?_⟩
        have h3 : l.take q.toNat = (l.take (q + n).toNat).take q.toNat := by
          rw [List.take_take, Nat.min_eq_left (by omega)]
        rw [h3, List.take_append_drop]
  · rw [if_neg c] at h
    simp only [Prod.mk.injEq] at h
    exact absurd h.2.2 c
theorem one_j0 (l : List Int) (hb : Bytes l) (hn : l.length ≤ 140737488351232) : Ev (fun k => cressetlaw01_CodecOne.j0 k l false) true := by
  refine Ev.step (fun k => by simp only [cressetlaw01_CodecOne.j0]; rfl) ?_
  refine Ev.congr (f := _) (fun k => if_neg (by decide)) ?_
  refine Ev.bind (text_ev l hb (by omega)) ?_
  generalize hT : T l = t
  obtain ⟨s, z, e⟩ := t
  simp only
  by_cases c : e = 0
  · subst c
    obtain ⟨h1, h2, h3⟩ := T_ok hb hT
    simp only [if_true]
    have hs6 : i64 (s.size : Int) := by
      have := congrArg List.length h3
      rw [List.length_append, I_length, bytesOf_length, List.length_take] at this
      exact ⟨by omega, by omega⟩
    have hsz : s.size ≤ 140737488355000 := by
      have := congrArg List.length h3
      rw [List.length_append, I_length, bytesOf_length, List.length_take] at this
      omega
    refine Ev.congr (f := _) (fun k => if_neg (by omega)) ?_
    refine Ev.congr (f := _) (fun k => if_neg (by omega)) ?_
    refine Ev.bind (puttext_ev s [] (by simp; omega)) ?_
    simp only [List.nil_append]
    refine Ev.congr (f := _) (fun k => if_pos (by omega)) ?_
    refine Ev.congr (f := _) (fun k => if_pos (by omega)) ?_
    rw [h3]
    refine Ev.bind (eq_ev _) ?_
    refine Ev.congr (f := _) (fun k => if_pos rfl) ?_
    exact Ev.bind live_ev (Ev.now _)
  · simp only [if_neg c]
    exact Ev.bind live_ev (Ev.now _)
/-- there is one form -/
theorem CodecOne : cressetlaw01_CodecOne.Pure := by
  intro l hl
  have hb := Bytes.of hl.2.2
  have hn : l.length ≤ 140737488351232 := by omega
  refine Ev.rounds (r := true) ?_
  unfold cressetlaw01_CodecOne.f
  refine Ev.bind (int_ev l hb (by omega)) ?_
  generalize hP : P l = p
  obtain ⟨n, s, e⟩ := p
  simp only
  by_cases c : e = 0
  · subst c
    obtain ⟨hi, hs, hle, hI⟩ := P_ok hb hP
    have hk := kw_le hi
    simp only [if_true]
    refine Ev.congr (f := _) (fun k => if_neg (by omega)) ?_
    refine Ev.congr (f := _) (fun k => if_neg (by omega)) ?_
    refine Ev.bind (put_ev hi [] (by simp)) ?_
    simp only [List.nil_append]
    refine Ev.congr (f := _) (fun k => if_pos (by omega)) ?_
    refine Ev.congr (f := _) (fun k => if_pos (by omega)) ?_
    rw [hI, show s.toNat = 1 + kw n by omega]
    refine Ev.bind (eq_ev _) ?_
    exact one_j0 l hb hn
  · simp only [if_neg c]
    exact one_j0 l hb hn

end Go.Proofs.Ytphdinelioendaa.Pure

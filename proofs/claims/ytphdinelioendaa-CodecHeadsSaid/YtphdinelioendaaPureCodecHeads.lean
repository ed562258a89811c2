import Derived.Test.YtphdinelioendaaBx9
import Derived.Test.YtphdinelioendaaLibC
namespace Go.Proofs.Ytphdinelioendaa.Pure
open Go.RowKit Go.Proofs.Ytphdinelioendaa.B Go.Proofs.YtphdinelioendaaW.PrintWords Go.Proofs.YtphdinelioendaaW.PrintLast Go.Proofs.Ytphdinelioendaa.Lib

/-- a beginning ends too early -/
theorem CodecHeads : cressetlaw01_CodecHeads.Pure := by
  intro n s cut hn hs hc
  have hn := i64_of hn
  have hc : 0 ≤ cut ∧ cut ≤ 65535 := by
    simp [Lit.wf, IntKind.min, IntKind.max, IntKind.bits, IntKind.signed] at hc
    omega
  have hk := kw_le hn
  have hs6 : i64 (s.size : Int) := ⟨by omega, by omega⟩
  have hks := kw_le hs6
  refine Ev.rounds (r := true) ?_
  unfold cressetlaw01_CodecHeads.f
  refine Ev.bind live_ev ?_
  refine Ev.congr (f := _) (fun k => if_pos rfl) ?_
  refine Ev.bind (put_ev hn [] (by simp)) (Ev.bind (puttext_ev s [] (by simp; omega)) ?_)
  simp only [List.nil_append]
  obtain ⟨x, hx⟩ : ∃ x, x = I n := ⟨_, rfl⟩
  obtain ⟨t, ht⟩ : ∃ t, t = I s.size ++ bytesOf s := ⟨_, rfl⟩
  have hxl : x.length = 1 + kw n := by rw [hx, I_length]
  have htl : t.length = 1 + kw s.size + s.size := by rw [ht, List.length_append, I_length, bytesOf_length]
  have hxb : Bytes x := by rw [hx]; exact I_bytes hn
  have htb : Bytes t := by
    rw [ht]
    intro y hy
    rcases List.mem_append.mp hy with hy | hy
    · exact I_bytes hs6 y hy
    · exact bytesOf_bytes s y hy
  rw [← hx, ← ht]
  refine Ev.congr (f := fun k => cressetlaw01_CodecHeads.j0 k cut x t false) (fun k => ?_) ?_
  · rw [if_neg (by omega), beq_eq_false_iff_ne.mpr (by omega)]
  have m1 : Int.tmod cut (x.length : Int) = cut % (x.length : Int) := Int.tmod_eq_emod_of_nonneg hc.1
  have m2 : Int.tmod cut (t.length : Int) = cut % (t.length : Int) := Int.tmod_eq_emod_of_nonneg hc.1
  have g1 := Int.emod_nonneg cut (b := (x.length : Int)) (by omega)
  have g2 := Int.emod_lt_of_pos cut (b := (x.length : Int)) (by omega)
  have g3 := Int.emod_nonneg cut (b := (t.length : Int)) (by omega)
  have g4 := Int.emod_lt_of_pos cut (b := (t.length : Int)) (by omega)
  generalize hp : cut % (x.length : Int) = p at *
  generalize hq : cut % (t.length : Int) = q at *
  have e1 : P (x.take p.toNat) = (0, 0, 10) := by rw [hx]; exact P_short hn _ (by rw [I_length]; omega)
  have e2 : (T (t.take q.toNat)).2.2 = 10 := by
    unfold T
    by_cases c : q.toNat < (I s.size).length
    · have : t.take q.toNat = (I s.size).take q.toNat := by rw [ht, List.take_append_of_le_length (by omega)]
      rw [this, P_short hs6 _ c]
      rfl
    · have : t.take q.toNat = I s.size ++ (bytesOf s).take (q.toNat - (I s.size).length) := by rw [ht, List.take_append, List.take_of_length_le (by omega)]
      rw [I_length] at c
      have hl : (t.take q.toNat).length = q.toNat := by simp <;> omega
      rw [hl, this, P_I hs6]
      simp only
      rw [if_pos trivial, if_neg (by omega), if_pos (by omega)]
  refine Ev.step (f := fun k => (codec_Int.f k (x.take p.toNat)).bind fun u => (codec_Text.f k (t.take q.toNat)).bind fun v => if u.2.2 = 10 then some (v.2.2 == 10) else some false) (fun k => ?_) ?_
  · simp only [cressetlaw01_CodecHeads.j0]
    rw [if_neg (by decide), wr1 (x := cut) (by omega) (by omega), m1, m2, if_neg (by omega), if_pos (by omega), if_pos (by omega)]
    refine congrArg _ (funext fun u => ?_)
    rw [if_neg (by omega), if_pos (by omega), if_pos (by omega)]
  · refine Ev.bind (int_ev _ (hxb.take _) (by simp; omega)) (Ev.bind (text_ev _ (htb.take _) (by simp; omega)) ?_)
    rw [e1, e2]
    exact Ev.now _

end Go.Proofs.Ytphdinelioendaa.Pure

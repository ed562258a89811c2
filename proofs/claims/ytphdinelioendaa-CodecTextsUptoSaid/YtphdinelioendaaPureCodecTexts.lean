import Derived.Test.YtphdinelioendaaBx16
import Derived.Test.YtphdinelioendaaLibE
namespace Go.Proofs.Ytphdinelioendaa.Pure
open Go.RowKit Go.Proofs.Ytphdinelioendaa.B Go.Proofs.YtphdinelioendaaW.PrintWords Go.Proofs.YtphdinelioendaaW.PrintLast Go.Proofs.Ytphdinelioendaa.Lib

theorem ones : ∀ l : List Int, (l.map (fun _ => 1)).sum = l.length
  | [] => rfl
  | _ :: l => by simp [ones l]; omega
/-- what bytes begin with as a text's bytes -/
def TB (l : List Int) : List Int × Int × Int :=
  if (P l).2.2 = 0 then (if (P l).1 < 0 then ([], 0, 11) else if (P l).1 > (l.length : Int) - (P l).2.1 then ([], 0, 10) else ((l.take ((P l).2.1 + (P l).1).toNat).drop (P l).2.1.toNat, (P l).2.1 + (P l).1, 0)) else ([], 0, (P l).2.2)
theorem T_TB (l : List Int) : T l = (strOfNums (TB l).1, (TB l).2.1, (TB l).2.2) := by
  unfold T TB
  (repeat' split) <;> rfl
theorem parsebytes_ev (l : List Int) (hl : Bytes l) (hn : l.length ≤ 140737488351232) : Ev (fun q => cressetref01_ParseBytes.f q l) (TB l) := by
  unfold cressetref01_ParseBytes.f TB
  refine Ev.bind (parse_ev l hl (by omega)) ?_
  generalize hP : P l = p
  obtain ⟨n, s, e⟩ := p
  simp only
  by_cases c : e = 0
  · subst c
    obtain ⟨⟨n0, n1⟩, hs, hle, _⟩ := P_ok hl hP
    simp only [eq_self, if_true]
    by_cases c1 : n < 0
    · simp only [if_pos c1]
      exact Ev.now _
    · simp only [if_neg c1]
      rw [wr1 (x := (l.length : Int) - s) (by omega) (by omega)]
      by_cases c2 : n > (l.length : Int) - s
      · simp only [if_pos c2]
        exact Ev.now _
      · simp only [if_neg c2]
        refine Ev.congr (f := fun _ => some _) (fun k => ?_) (Ev.now _)
        rw [wr1 (x := s + n) (by omega) (by omega), if_pos (by omega), if_pos (by omega), if_pos (by omega), if_pos (by simp; omega)]
        rfl
  · simp only [if_neg c]
    exact Ev.now _
theorem refflag_ev (l : List Int) (hl : Bytes l) (hn : l.length ≤ 9223372036854775000) : Ev (fun q => cressetref01_ParseFlag.f q l) (F l) := by
  unfold cressetref01_ParseFlag.f F
  refine Ev.bind (parse_ev l hl hn) ?_
  generalize hP : P l = p
  obtain ⟨n, s, e⟩ := p
  simp only
  by_cases c : e = 0
  · subst c
    simp only [eq_self, if_true]
    by_cases c1 : n = 0
    · rw [if_pos (.inl c1)]
      refine Ev.congr (fun k => if_pos c1) ?_
      exact Ev.step (f := fun _ => some _) (fun k => by simp only [cressetref01_ParseFlag.j0]; rfl) (Ev.now _)
    · refine Ev.congr (fun k => if_neg c1) ?_
      by_cases c2 : n = 1
      · rw [if_pos (.inr c2)]
        subst c2
        exact Ev.step (f := fun _ => some _) (fun k => by simp only [cressetref01_ParseFlag.j0]; rfl) (Ev.now _)
      · rw [if_neg (by omega), bne_iff_ne.mpr c2]
        exact Ev.step (f := fun _ => some _) (fun k => by simp only [cressetref01_ParseFlag.j0]; rfl) (Ev.now _)
  · simp only [if_neg c]
    refine Ev.step (f := fun _ => some _) (fun k => ?_) (Ev.now _)
    simp only [cressetref01_ParseFlag.j0]
    rw [if_neg (by decide), if_neg c]
theorem refbytes_ev (l : List Int) (hl : l.length ≤ 1048576) : Ev (fun k => cressetref01_Bytes.f k l) (I l.length ++ l) := by
  have hs : i64 (l.length : Int) := ⟨by omega, by omega⟩
  have hk := kw_le hs
  unfold cressetref01_Bytes.f
  refine Ev.bind (refI_ev hs) ?_
  refine Ev.congr (f := fun _ => some _) (fun k => ?_) (Ev.now _)
  rw [if_pos (by rw [I_length]; omega)]
/-- texts and flags -/
theorem CodecTexts : cressetlaw01_CodecTexts.Pure := by
  intro s yes l hs hl hU
  rw [ones] at hU
  have hb := Bytes.of hl.2.2
  have hs6 : i64 (s.size : Int) := ⟨by omega, by omega⟩
  have hks := kw_le hs6
  refine Ev.rounds (r := true) ?_
  have key : ∀ x19, x19 = I (if yes then 1 else 0) → Ev (fun k => cressetlaw01_CodecTexts.j0 k s yes l (T l).1 (T l).2.1 (T l).2.2 (TB l).1 (TB l).2.1 (TB l).2.2 (F l).1 (F l).2.1 (F l).2.2 (F l).1 (F l).2.1 (F l).2.2 x19) true := by
    intro x19 hx
    refine Ev.step (fun k => by simp only [cressetlaw01_CodecTexts.j0]; rfl) ?_
    refine Ev.bind live_ev ?_
    refine Ev.congr (f := _) (fun k => if_pos rfl) ?_
    refine Ev.bind (puttext_ev s l (by omega)) (Ev.bind (clone_ev l (by omega)) ?_)
    refine Ev.congr (f := _) (fun k => if_pos (by omega)) ?_
    refine Ev.bind (refbytes_ev (bytesOf s) (by rw [bytesOf_length]; omega)) ?_
    rw [bytesOf_length]
    refine Ev.congr (f := _) (fun k => if_pos (by simp only [List.length_append, I_length, bytesOf_length]; omega)) ?_
    rw [List.append_assoc]
    refine Ev.bind (eq_ev _) ?_
    refine Ev.congr (f := _) (fun k => if_pos rfl) ?_
    refine Ev.bind (putflag_ev yes l (by omega)) (Ev.bind (clone_ev l (by omega)) ?_)
    have h19 : x19.length = 1 := by rw [hx, I_length]; cases yes <;> rfl
    refine Ev.congr (f := _) (fun k => if_pos (by omega)) ?_
    rw [hx]
    refine Ev.bind (eq_ev _) ?_
    refine Ev.congr (f := fun _ => some true) (fun k => ?_) (Ev.now _)
    rw [T_TB l]
    simp only
    rw [if_pos trivial, if_pos trivial, if_pos trivial, if_pos trivial, if_pos (by simp), if_pos trivial, beq_self_eq_true]
  unfold cressetlaw01_CodecTexts.f
  refine Ev.bind (text_ev l hb (by omega)) (Ev.bind (parsebytes_ev l hb (by omega)) (Ev.bind (flag_ev l hb (by omega)) (Ev.bind (refflag_ev l hb (by omega)) (Ev.bind (Ev.now _) ?_))))
  cases yes
  · refine Ev.congr (f := _) (fun k => if_neg (by decide)) ?_
    exact key _ rfl
  · refine Ev.congr (f := _) (fun k => if_pos rfl) ?_
    refine Ev.congr (f := _) (fun k => if_pos (by decide)) ?_
    exact key _ rfl

end Go.Proofs.Ytphdinelioendaa.Pure

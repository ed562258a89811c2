import Derived.Test.YtphdinelioendaaBx14
import Derived.Test.YtphdinelioendaaLibD
namespace Go.Proofs.Ytphdinelioendaa.Pure
open Go.RowKit Go.Proofs.Ytphdinelioendaa.B Go.Proofs.YtphdinelioendaaW.PrintWords Go.Proofs.YtphdinelioendaaW.PrintLast Go.Proofs.Ytphdinelioendaa.Lib

theorem ones : ∀ l : List Int, (l.map (fun _ => 1)).sum = l.length
  | [] => rfl
  | _ :: l => by simp [ones l]; omega
/-- what was put is read -/
theorem CodecBack : cressetlaw01_CodecBack.Pure := by
  intro n s r hn hs hr hU
  rw [ones] at hU
  have hn := i64_of hn
  have hrb := Bytes.of hr.2.2
  have hk := kw_le hn
  have hs6 : i64 (s.size : Int) := ⟨by omega, by omega⟩
  have hks := kw_le hs6
  obtain ⟨g, hg⟩ : ∃ g : Bool, decide (n > 0) = g := ⟨_, rfl⟩
  have hf6 : i64 (if g then 1 else 0) := by cases g <;> exact ⟨by simp, by simp⟩
  have hkf := kw_le hf6
  obtain ⟨y, hy⟩ : ∃ y, y = I n ++ I s.size ++ bytesOf s ++ I (if g then 1 else 0) ++ r := ⟨_, rfl⟩
  have hyb : Bytes y := by
    rw [hy]
    intro z hz
    simp only [List.mem_append] at hz
    rcases hz with ((((hz | hz) | hz) | hz) | hz)
    · exact I_bytes hn z hz
    · exact I_bytes hs6 z hz
    · exact bytesOf_bytes s z hz
    · exact I_bytes hf6 z hz
    · exact hrb z hz
  have hyl : y.length = 1 + kw n + (1 + kw s.size) + s.size + (1 + kw (if g then 1 else 0)) + r.length := by
    rw [hy]
    simp only [List.length_append, I_length, bytesOf_length]
  have hP : P y = (n, 1 + (kw n : Int), 0) := by
    rw [hy, List.append_assoc, List.append_assoc, List.append_assoc]
    exact P_I hn _
  have hT : T (y.drop (1 + kw n)) = (s, 1 + (kw s.size : Int) + s.size, 0) := by
    rw [hy, List.append_assoc, List.append_assoc, List.append_assoc, List.drop_left' (I_length n)]
    exact T_str s hs6 _
  have hF : F (y.drop (1 + kw n + (1 + kw s.size) + s.size)) = (g, 1, 0) := by
    rw [hy, List.append_assoc (I n ++ I s.size ++ bytesOf s), List.drop_left' (by simp only [List.length_append, I_length, bytesOf_length])]
    exact F_I g r
  refine Ev.rounds (r := true) ?_
  unfold cressetlaw01_CodecBack.f
  refine Ev.bind live_ev ?_
  refine Ev.congr (f := _) (fun k => if_pos rfl) ?_
  refine Ev.bind (put_ev hn [] (by simp)) ?_
  simp only [List.nil_append]
  refine Ev.bind (puttext_ev s (I n) (by rw [I_length]; omega)) ?_
  rw [hg]
  refine Ev.bind (putflag_ev g _ (by simp only [List.length_append, I_length, bytesOf_length]; omega)) ?_
  refine Ev.congr (f := _) (fun k => if_pos (by simp only [List.length_append, I_length, bytesOf_length]; omega)) ?_
  rw [← hy]
  refine Ev.bind (Ev.now _) (Ev.bind (int_ev y hyb (by omega)) ?_)
  rw [hP]
  have e1 : ((I n).length : Int) = 1 + (kw n : Int) := by rw [I_length]; omega
  have e2 : ((I n ++ I s.size ++ bytesOf s).length : Int) = 1 + (kw n : Int) + (1 + (kw s.size : Int)) + s.size := by simp only [List.length_append, I_length, bytesOf_length]; omega
  rw [e1, e2]
  refine Ev.congr (f := fun k => cressetlaw01_CodecBack.j0 k n s y (1 + (kw n : Int)) (1 + (kw n : Int) + (1 + (kw s.size : Int)) + s.size) false) (fun k => ?_) ?_
  · rw [if_pos rfl, if_pos rfl, bne_eq_false_iff_eq.mpr rfl]
  refine Ev.step (fun k => by simp only [cressetlaw01_CodecBack.j0]; rfl) ?_
  rw [show (1 + (kw n : Int)).toNat = 1 + kw n by omega, show (1 + (kw n : Int) + (1 + (kw s.size : Int)) + s.size).toNat = 1 + kw n + (1 + kw s.size) + s.size by omega]
  refine Ev.congr (f := _) (fun k => if_neg (by decide)) ?_
  refine Ev.congr (f := _) (fun k => if_pos (by omega)) ?_
  refine Ev.congr (f := _) (fun k => if_pos (by omega)) ?_
  refine Ev.bind (text_ev _ (hyb.drop _) (by simp; omega)) ?_
  rw [hT]
  refine Ev.congr (f := _) (fun k => if_pos rfl) ?_
  refine Ev.congr (f := _) (fun k => if_pos rfl) ?_
  refine Ev.congr (f := _) (fun k => if_pos (show wrap64 (1 + (kw n : Int) + (1 + (kw s.size : Int) + s.size)) = _ by rw [wr1 (by omega) (by omega)]; omega)) ?_
  refine Ev.congr (f := _) (fun k => if_pos (by omega)) ?_
  refine Ev.congr (f := _) (fun k => if_pos (by omega)) ?_
  refine Ev.bind (flag_ev _ (hyb.drop _) (by simp; omega)) ?_
  rw [hF]
  refine Ev.congr (f := fun _ => some true) (fun k => ?_) (Ev.now _)
  rw [if_pos rfl, if_pos (by simp [hg])]
  rfl

end Go.Proofs.Ytphdinelioendaa.Pure

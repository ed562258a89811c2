import Derived.Test.YtphdinelioendaaBx3
import Derived.Test.YtphdinelioendaaLibE
namespace Go.Proofs.Ytphdinelioendaa.Pure
open Go.RowKit Go.Proofs.Ytphdinelioendaa.B Go.Proofs.YtphdinelioendaaW.PrintWords Go.Proofs.YtphdinelioendaaW.PrintLast Go.Proofs.Ytphdinelioendaa.Lib

theorem flat_small : ∀ l : List (List Int), (l.flatten).length ≤ (l.map (fun x => (x.map (fun _ => 1)).sum + 1)).sum
  | [] => by simp
  | x :: l => by
    have h : ∀ l : List Int, (l.map (fun _ => 1)).sum = l.length := by
      intro l
      induction l with
      | nil => rfl
      | cons _ l ih => simp [ih]; omega
    have := flat_small l
    simp only [List.flatten_cons, List.length_append, List.map_cons, List.sum_cons, h] at *
    omega
/-- the check of lists is that of all their bytes -/
theorem sums_loop (L : List (List Int)) (hl : L.length ≤ 9223372036854775000) (hb : ∀ x ∈ L, Bytes x ∧ x.length ≤ 9223372036854775000) (hs : L.flatten.length ≤ 1048576) : ∀ (d i : Nat), i + d = L.length → Ev (fun k => cressetlaw01_CodecSums.l0 k L (L.take i).flatten L (L.length : Int) (i : Int)) true
  | 0, i, h => by
    rw [List.take_of_length_le (by omega)]
    have hfb : Bytes L.flatten := by
      intro y hy
      obtain ⟨x, hx, hy⟩ := List.mem_flatten.mp hy
      exact (hb x hx).1 y hy
    refine Ev.step (fun k => by simp only [cressetlaw01_CodecSums.l0]; rfl) ?_
    refine Ev.congr (f := _) (fun k => if_neg (by omega)) ?_
    refine Ev.bind live_ev ?_
    refine Ev.congr (f := _) (fun k => if_pos rfl) ?_
    refine Ev.bind (sum_ev L hl hb) (Ev.bind (sum_ref_ev _ hfb (by omega)) ?_)
    refine Ev.congr (f := _) (fun k => if_pos rfl) ?_
    refine Ev.bind (sum1_ev _ hfb (by omega)) (Ev.bind (sum_ref_ev _ hfb (by omega)) ?_)
    rw [beq_self_eq_true]
    exact Ev.now _
  | d + 1, i, h => by
    have hi : i < L.length := by omega
    have ih := sums_loop L hl hb hs d (i + 1) (by omega)
    have e : (L.take (i + 1)).flatten = (L.take i).flatten ++ L[i] := by
      rw [List.take_succ_eq_append_getElem hi, List.flatten_append]
      simp
    have hle : (L.take (i + 1)).flatten.length ≤ 1048576 := by
      have h2 : L.flatten = (L.take (i + 1)).flatten ++ (L.drop (i + 1)).flatten := by rw [← List.flatten_append, List.take_append_drop]
      rw [h2, List.length_append] at hs
      omega
    rw [e] at ih hle
    rw [List.length_append] at hle
    refine Ev.step (fun k => ?_) ih
    simp only [cressetlaw01_CodecSums.l0]
    rw [if_pos (by omega), if_pos (by omega), if_pos (by omega), rdL_get L i hi, if_pos (by omega), wr1 (by omega) (by omega)]
    rfl
theorem CodecSums : cressetlaw01_CodecSums.Pure := by
  intro L hL hU
  have hf := flat_small L
  have := sums_loop L (by omega) (fun x hx => ⟨Bytes.of (hL.2.2 x hx).2.2, by have := (hL.2.2 x hx).2.1; omega⟩) (by omega) L.length 0 (by omega)
  exact Ev.rounds this

end Go.Proofs.Ytphdinelioendaa.Pure

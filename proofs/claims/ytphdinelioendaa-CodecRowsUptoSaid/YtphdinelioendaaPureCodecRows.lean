import Derived.Test.YtphdinelioendaaBx12
import Derived.Test.YtphdinelioendaaLibF
namespace Go.Proofs.Ytphdinelioendaa.Pure
open Go.RowKit Go.Proofs.Ytphdinelioendaa.B Go.Proofs.YtphdinelioendaaW.PrintWords Go.Proofs.YtphdinelioendaaW.PrintLast Go.Proofs.YtphdinelioendaaW.PrintMore Go.Proofs.Ytphdinelioendaa.Lib

def I64s (l : List Int) : Prop := ∀ x ∈ l, i64 x
/-- all ints' bytes, one behind the other -/
def Is (l : List Int) : List Int := (l.map I).flatten
def rel (w : Int) (l m : List Int) : Prop := Bytes l ∧ Bytes m ∧ ((w = 0 ∧ l = m) ∨ (w = -1 ∧ Lt l m) ∨ (w = 1 ∧ Lt m l))
theorem rel_cmp {w : Int} {l m : List Int} (h : rel w l m) : Go.Lib.compareBytes (Go.Lib.bytesOf l) (Go.Lib.bytesOf m) = w := by
  obtain ⟨hl, hm, h⟩ := h
  rcases h with ⟨rfl, rfl⟩ | ⟨rfl, h⟩ | ⟨rfl, h⟩
  · exact cmp_refl _
  · exact (cmp_lt hl hm h).1
  · exact (cmp_lt hm hl h).2
theorem bapp {x y : List Int} (hx : Bytes x) (hy : Bytes y) : Bytes (x ++ y) := by
  intro z hz
  rcases List.mem_append.mp hz with hz | hz
  · exact hx z hz
  · exact hy z hz
theorem rel_step {w : Int} {l m : List Int} (h : rel w l m) {a b : Int} (ha : i64 a) (hb : i64 b) : rel (if w = 0 then cm a b else w) (l ++ I a) (m ++ I b) := by
  obtain ⟨hl, hm, h⟩ := h
  refine ⟨bapp hl (I_bytes ha), bapp hm (I_bytes hb), ?_⟩
  rcases h with ⟨rfl, rfl⟩ | ⟨rfl, h⟩ | ⟨rfl, h⟩
  · rw [if_pos rfl]
    unfold cm
    by_cases c : a < b
    · rw [if_pos c]
      exact .inr (.inl ⟨rfl, (I_lt ha hb c).pre l⟩)
    · rw [if_neg c]
      by_cases d : a > b
      · rw [if_pos d]
        exact .inr (.inr ⟨rfl, (I_lt hb ha d).pre l⟩)
      · rw [if_neg d, show a = b by omega]
        exact .inl ⟨rfl, rfl⟩
  · exact .inr (.inl ⟨rfl, h.app _ _⟩)
  · exact .inr (.inr ⟨rfl, h.app _ _⟩)
theorem rows_loop (l m : List Int) (hl : I64s l) (hm : I64s m) (hln : l.length ≤ 1048576) (hmn : m.length ≤ 1048576) (n : Nat) (hn1 : n ≤ l.length) (hn2 : n ≤ m.length) : ∀ (d i : Nat) (x y : List Int) (w : Int), i + d = n → x.length ≤ 9 * i → y.length ≤ 9 * i → rel w x y → Ev (fun k => cressetlaw01_CodecRows.l0 k l m x y w (n : Int) (i : Int)) true
  | 0, i, x, y, w, h, hx, hy, hr => by
    refine Ev.step (fun k => by simp only [cressetlaw01_CodecRows.l0]; rfl) ?_
    refine Ev.congr (f := _) (fun k => if_neg (by omega)) ?_
    refine Ev.bind live_ev ?_
    refine Ev.congr (f := _) (fun k => if_pos rfl) ?_
    have cmpe : ∀ x y, Ev (fun _ => bytes_Compare.f x y) (Go.Lib.compareBytes (Go.Lib.bytesOf x) (Go.Lib.bytesOf y)) := fun x y => Ev.now _
    refine Ev.bind (cmpe _ _) ?_
    rw [rel_cmp hr, beq_self_eq_true]
    exact Ev.now _
  | d + 1, i, x, y, w, h, hx, hy, hr => by
    have hi : i < l.length := by omega
    have hj : i < m.length := by omega
    have ha := hl _ (List.getElem_mem hi)
    have hb := hm _ (List.getElem_mem hj)
    have ka := kw_le ha
    have kb := kw_le hb
    have ih := rows_loop l m hl hm hln hmn n hn1 hn2 d (i + 1) (x ++ I l[i]) (y ++ I m[i]) (if w = 0 then cm l[i] m[i] else w) (by omega) (by rw [List.length_append, I_length]; omega) (by rw [List.length_append, I_length]; omega) (rel_step hr ha hb)
    refine Ev.step (fun k => by simp only [cressetlaw01_CodecRows.l0]; rfl) ?_
    refine Ev.congr (f := _) (fun k => if_pos (by omega)) ?_
    refine Ev.congr (f := _) (fun k => if_pos (by omega)) ?_
    refine Ev.congr (f := _) (fun k => if_pos (by omega)) ?_
    rw [rd_get l i hi, rd_get m i hj, wr1 (x := (i : Int) + 1) (by omega) (by omega)]
    refine Ev.bind (put_ev ha x (by omega)) ?_
    refine Ev.congr (f := _) (fun k => if_pos (by omega)) ?_
    refine Ev.bind (put_ev hb y (by omega)) ?_
    by_cases c : w = 0
    · rw [if_pos c] at ih
      refine Ev.congr (f := _) (fun k => if_pos c) ?_
      exact Ev.bind (cmpc_ev _ _) ih
    · rw [if_neg c] at ih
      exact Ev.congr (f := _) (fun k => if_neg c) ih
theorem ones : ∀ l : List Int, (l.map (fun _ => 1)).sum = l.length
  | [] => rfl
  | _ :: l => by simp [ones l]; omega
/-- rows of ints have the order of their bytes -/
theorem CodecRows : cressetlaw01_CodecRows.Pure := by
  intro l m hl hm hU
  rw [ones, ones] at hU
  refine Ev.rounds (r := true) ?_
  unfold cressetlaw01_CodecRows.f
  have e : mn (l.length : Int) (m.length : Int) = ((min l.length m.length : Nat) : Int) := by
    unfold mn
    split <;> omega
  rw [e]
  exact rows_loop l m (fun x hx => i64_of (hl.2.2 x hx)) (fun x hx => i64_of (hm.2.2 x hx)) (by omega) (by omega) _ (Nat.min_le_left _ _) (Nat.min_le_right _ _) _ 0 [] [] 0 (Nat.zero_add _) (by simp) (by simp) ⟨by intro z hz; simp at hz, by intro z hz; simp at hz, .inl ⟨rfl, rfl⟩⟩

end Go.Proofs.Ytphdinelioendaa.Pure

import Derived.Test.YtphdinelioendaaBx20
import Derived.Test.YtphdinelioendaaLibE
namespace Go.Proofs.Ytphdinelioendaa.Pure
open Go.RowKit Go.Proofs.Ytphdinelioendaa.B Go.Proofs.YtphdinelioendaaW.PrintWords Go.Proofs.YtphdinelioendaaW.PrintLast Go.Proofs.Ytphdinelioendaa.Lib

theorem own2 (l p : List Int) : ∀ (d i : Nat) (x : List Int), i + d = x.length → x.length ≤ 9223372036854775000 → Ev (fun k => cressetlaw01_CodecOwn.l2 k l l p p x (x.length : Int) (i : Int)) true
  | 0, i, x, h, hx => by
    refine Ev.step (fun k => by simp only [cressetlaw01_CodecOwn.l2]; rfl) ?_
    refine Ev.congr (f := _) (fun k => if_neg (by omega)) ?_
    refine Ev.bind live_ev ?_
    refine Ev.congr (f := _) (fun k => if_pos rfl) ?_
    refine Ev.bind (eq_ev _) ?_
    refine Ev.congr (f := _) (fun k => if_pos rfl) ?_
    exact Ev.bind (eq_ev _) (Ev.now _)
  | d + 1, i, x, h, hx => by
    have ih := own2 l p d (i + 1) (x.set (i : Int).toNat (Go.bits .xor .u8 (rd x i) 255)) (by rw [List.length_set]; omega) (by rw [List.length_set]; omega)
    rw [List.length_set] at ih
    refine Ev.step (fun k => ?_) ih
    simp only [cressetlaw01_CodecOwn.l2]
    rw [if_pos (by omega), if_pos (by omega), if_pos (by omega), wr1 (x := (i : Int) + 1) (by omega) (by omega)]
    rfl
theorem own1 (l p : List Int) (hb : Bytes l) (hl : l.length ≤ 140737488355000) : ∀ (d i : Nat) (x : List Int), i + d = x.length → x.length ≤ 9223372036854775000 → Ev (fun k => cressetlaw01_CodecOwn.l1 k l l p p x (x.length : Int) (i : Int)) true
  | 0, i, x, h, hx => by
    refine Ev.step (fun k => by simp only [cressetlaw01_CodecOwn.l1]; rfl) ?_
    refine Ev.congr (f := _) (fun k => if_neg (by omega)) ?_
    refine Ev.bind (unframe_ev l hb hl) ?_
    have hu : (U l).1.length ≤ 9223372036854775000 := by
      unfold U
      (repeat' split) <;> simp <;> omega
    exact own2 l p (U l).1.length 0 (U l).1 (Nat.zero_add _) hu
  | d + 1, i, x, h, hx => by
    have ih := own1 l p hb hl d (i + 1) (x.set (i : Int).toNat (Go.bits .xor .u8 (rd x i) 255)) (by rw [List.length_set]; omega) (by rw [List.length_set]; omega)
    rw [List.length_set] at ih
    refine Ev.step (fun k => ?_) ih
    simp only [cressetlaw01_CodecOwn.l1]
    rw [if_pos (by omega), if_pos (by omega), if_pos (by omega), wr1 (x := (i : Int) + 1) (by omega) (by omega)]
    rfl
theorem own0 (l p f : List Int) (hb : Bytes l) (hl : l.length ≤ 140737488355000) (hf : f.length ≤ 9223372036854775000) : ∀ (d i : Nat) (x : List Int), i + d = x.length → x.length ≤ 9223372036854775000 → Ev (fun k => cressetlaw01_CodecOwn.l0 k l l p x p f (x.length : Int) (i : Int)) true
  | 0, i, x, h, hx => by
    refine Ev.step (fun k => by simp only [cressetlaw01_CodecOwn.l0]; rfl) ?_
    refine Ev.congr (f := _) (fun k => if_neg (by omega)) ?_
    exact own1 l p hb hl f.length 0 f (Nat.zero_add _) hf
  | d + 1, i, x, h, hx => by
    have ih := own0 l p f hb hl hf d (i + 1) (x.set (i : Int).toNat (Go.bits .xor .u8 (rd x i) 255)) (by rw [List.length_set]; omega) (by rw [List.length_set]; omega)
    rw [List.length_set] at ih
    refine Ev.step (fun k => ?_) ih
    simp only [cressetlaw01_CodecOwn.l0]
    rw [if_pos (by omega), if_pos (by omega), if_pos (by omega), wr1 (x := (i : Int) + 1) (by omega) (by omega)]
    rfl
/-- memory is nobody else's -/
theorem CodecOwn : cressetlaw01_CodecOwn.Pure := by
  intro l n hl hn
  have hn := i64_of hn
  have hb := Bytes.of hl.2.2
  have hk := kw_le hn
  have h3 : i64 ((⟨#[97, 98, 99]⟩ : ByteArray).size : Int) := ⟨by decide, by decide⟩
  have hk3 := kw_le h3
  refine Ev.rounds (r := true) ?_
  unfold cressetlaw01_CodecOwn.f
  refine Ev.bind (clone_ev l (by omega)) ?_
  rw [wr1 (x := (l.length : Int) + 32) (by omega) (by omega)]
  refine Ev.congr (f := _) (fun k => if_pos (by omega)) ?_
  refine Ev.congr (f := _) (fun k => if_pos (by omega)) ?_
  refine Ev.bind (Ev.now _) ?_
  refine Ev.congr (f := _) (fun k => if_pos (by simp; omega)) ?_
  simp only [List.nil_append]
  refine Ev.bind (Ev.now _) (Ev.bind (put_ev hn l (by omega)) (Ev.bind (puttext_ev _ l (by show l.length + 3 ≤ _; omega)) (Ev.bind (clone_ev l (by omega)) (Ev.bind (refI_ev hn) ?_))))
  refine Ev.congr (f := _) (fun k => if_pos (by rw [I_length]; omega)) ?_
  refine Ev.bind (frame_ev l hb (by omega)) ?_
  have hf : (Fr l).1.length ≤ 9223372036854775000 := by
    have hz : i64 (l.length : Int) := ⟨by omega, by omega⟩
    have hkz := kw_le hz
    unfold Fr
    split
    · simp
    · simp only [List.length_append, I_length, tail4, List.length_cons, List.length_nil]
      omega
  exact own0 l _ _ hb (by omega) hf _ 0 _ (Nat.zero_add _) (by
    simp only [List.length_append, I_length, bytesOf_length]
    have : (⟨#[97, 98, 99]⟩ : ByteArray).size = 3 := rfl
    omega)

end Go.Proofs.Ytphdinelioendaa.Pure

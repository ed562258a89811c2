import Derived.Test.YtphdinelioendaaBx19
import Derived.Test.YtphdinelioendaaLibE
namespace Go.Proofs.Ytphdinelioendaa.Pure
open Go.RowKit Go.Proofs.Ytphdinelioendaa.B Go.Proofs.YtphdinelioendaaW.PrintWords Go.Proofs.YtphdinelioendaaW.PrintLast Go.Proofs.YtphdinelioendaaW.PrintMore Go.Proofs.Ytphdinelioendaa.Lib

theorem ones : ∀ l : List Int, (l.map (fun _ => 1)).sum = l.length
  | [] => rfl
  | _ :: l => by simp [ones l]; omega
theorem U_I {m : Nat} (hm : m ≤ 1048576) (q : List Int) (hq : m + 4 ≤ q.length) : U (I m ++ q) = if S (q.take m) = valA 0 ((q.take (m + 4)).drop m) then (q.take m, 1 + (kw m : Int) + m + 4, 0) else ([], 0, 12) := by
  have h6 : i64 (m : Int) := ⟨by omega, by omega⟩
  have hl := I_length m
  unfold U
  rw [P_I h6]
  simp only [if_true]
  rw [if_neg (by omega), if_neg (by omega), if_neg (by rw [List.length_append, I_length]; omega)]
  rw [show (1 + (kw m : Int) + m + 4).toNat = 1 + kw m + m + 4 by omega, show (1 + (kw m : Int) + m).toNat = 1 + kw m + m by omega, show (1 + (kw m : Int)).toNat = 1 + kw m by omega]
  have e1 : ((I m ++ q).take (1 + kw m + m)).drop (1 + kw m) = q.take m := by
    rw [List.drop_take, show 1 + kw m + m - (1 + kw m) = m by omega, List.drop_left' hl]
  have e2 : ((I m ++ q).take (1 + kw m + m + 4)).drop (1 + kw m + m) = (q.take (m + 4)).drop m := by
    rw [List.drop_take, List.drop_take, show 1 + kw m + m + 4 - (1 + kw m + m) = 4 by omega, show m + 4 - m = 4 by omega]
    rw [← List.drop_drop, List.drop_left' hl]
  rw [e1, e2]
theorem tail_val (s : Int) (h0 : 0 ≤ s) (h1 : s < 4294967296) : valA 0 (tail4 s) = s := by
  simp only [tail4, valA, List.foldl_cons, List.foldl_nil]
  omega
theorem sm_ne : ∀ (B : List Int) (p q : Int × Int), ok65 p → ok65 q → p.1 ≠ q.1 → (sm p B).1 ≠ (sm q B).1
  | [], _, _, _, _, h => h
  | b :: B, p, q, hp, hq, h => by
    rw [sm_cons, sm_cons]
    obtain ⟨a1, a2, a3, a4⟩ := hp
    obtain ⟨b1, b2, b3, b4⟩ := hq
    exact sm_ne B _ _ ⟨by simp; omega, by simp; omega, by simp; omega, by simp; omega⟩ ⟨by simp; omega, by simp; omega, by simp; omega, by simp; omega⟩ (by simp; omega)
theorem S_ne (A B : List Int) (d v : Int) (hd : 0 ≤ d ∧ d < 256) (hv : 0 ≤ v ∧ v < 256) (h : v ≠ d) : S (A ++ v :: B) ≠ S (A ++ d :: B) := by
  have ok1 : ok65 (1, 0) := ⟨by simp, by simp, by simp, by simp⟩
  have oA := sm_ok A (1, 0) ok1
  unfold S
  rw [sm_app, sm_app, sm_cons, sm_cons]
  generalize sm (1, 0) A = p at *
  obtain ⟨a1, a2, a3, a4⟩ := oA
  have o1 : ok65 ((p.1 + v) % 65521, (p.2 + (p.1 + v) % 65521) % 65521) := ⟨by simp; omega, by simp; omega, by simp; omega, by simp; omega⟩
  have o2 : ok65 ((p.1 + d) % 65521, (p.2 + (p.1 + d) % 65521) % 65521) := ⟨by simp; omega, by simp; omega, by simp; omega, by simp; omega⟩
  have hne := sm_ne B _ _ o1 o2 (by simp; omega)
  have r1 := sm_ok B _ o1
  have r2 := sm_ok B _ o2
  intro he
  unfold out at he
  generalize sm ((p.1 + v) % 65521, (p.2 + (p.1 + v) % 65521) % 65521) B = x at *
  generalize sm ((p.1 + d) % 65521, (p.2 + (p.1 + d) % 65521) % 65521) B = y at *
  obtain ⟨c1, c2, c3, c4⟩ := r1
  obtain ⟨d1, d2, d3, d4⟩ := r2
  omega
theorem flip_bit (d y : Int) (hd : 0 ≤ d ∧ d < 256) (hy : 0 ≤ y ∧ y < 8) : (0 ≤ Go.bits .xor .u8 d (shl .u8 1 y) ∧ Go.bits .xor .u8 d (shl .u8 1 y) < 256) ∧ Go.bits .xor .u8 d (shl .u8 1 y) ≠ d := by
  obtain ⟨n, rfl⟩ := Int.eq_ofNat_of_zero_le hd.1
  obtain ⟨k, rfl⟩ := Int.eq_ofNat_of_zero_le hy.1
  have hs : shl .u8 1 (k : Int) = ((2 ^ k : Nat) : Int) := by
    have : ∀ k : Fin 8, shl .u8 1 ((k.1 : Nat) : Int) = ((2 ^ k.1 : Nat) : Int) := by decide +kernel
    exact this ⟨k, by omega⟩
  have hp : ∀ n : Fin 256, ∀ k : Fin 8, (n.1 ^^^ 2 ^ k.1) < 256 ∧ (n.1 ^^^ 2 ^ k.1) ≠ n.1 ∧ 2 ^ k.1 < 256 := by decide +kernel
  have h3 := hp ⟨n, by omega⟩ ⟨k, by omega⟩
  simp only at h3
  rw [hs, Go.u8_xor_nat n (2 ^ k) (by omega) h3.2.2]
  omega
theorem tail_ne (s : Int) (h0 : 0 ≤ s) (h1 : s < 4294967296) (j : Nat) (hj : j < 4) (v : Int) (hv : 0 ≤ v ∧ v < 256) (hne : v ≠ (tail4 s)[j]'(by simpa [tail4] using hj)) : valA 0 ((tail4 s).set j v) ≠ s := by
  match j, hj, hne with
  | 0, _, hne => simp [tail4] at hne; simp [tail4, valA]; omega
  | 1, _, hne => simp [tail4] at hne; simp [tail4, valA]; omega
  | 2, _, hne => simp [tail4] at hne; simp [tail4, valA]; omega
  | 3, _, hne => simp [tail4] at hne; simp [tail4, valA]; omega
/-- torn and turned frames are found -/
theorem CodecTorn : cressetlaw01_CodecTorn.Pure := by
  intro l r n hl hr hn hU
  rw [ones, ones] at hU
  have hb := Bytes.of hl.2.2
  have hrb := Bytes.of hr.2.2
  have hn : 0 ≤ n ∧ n ≤ 65535 := by
    simp [Lit.wf, IntKind.min, IntKind.max, IntKind.bits, IntKind.signed] at hn
    omega
  refine Ev.rounds (r := true) ?_
  unfold cressetlaw01_CodecTorn.f
  have hm : l.length ≤ 1048576 := by omega
  have h6 : i64 (l.length : Int) := ⟨by omega, by omega⟩
  have hk := kw_le h6
  have hSr := S_range l
  refine Ev.congr (f := _) (fun k => if_neg (by omega)) ?_
  refine Ev.bind (frame_ev l hb (by omega)) ?_
  have hF : Fr l = (I l.length ++ (l ++ tail4 (S l)), 0) := by
    unfold Fr
    rw [if_neg (by omega), List.append_assoc]
  rw [hF]
  obtain ⟨f, hf⟩ : ∃ f, f = I l.length ++ (l ++ tail4 (S l)) := ⟨_, rfl⟩
  have hfl : f.length = 1 + kw l.length + l.length + 4 := by
    rw [hf]
    simp only [List.length_append, I_length, tail4, List.length_cons, List.length_nil]
    omega
  have htb : Bytes (tail4 (S l)) := by
    intro x hx
    simp only [tail4, List.mem_cons, List.not_mem_nil, or_false] at hx
    rcases hx with rfl | rfl | rfl | rfl <;> omega
  have hqb : Bytes (l ++ tail4 (S l)) := by
    intro x hx
    rcases List.mem_append.mp hx with hx | hx
    · exact hb x hx
    · exact htb x hx
  have hfb : Bytes f := by
    rw [hf]
    intro x hx
    rcases List.mem_append.mp hx with hx | hx
    · exact I_bytes h6 x hx
    · exact hqb x hx
  rw [← hf]
  refine Ev.congr (f := _) (fun k => if_pos rfl) ?_
  refine Ev.bind live_ev ?_
  refine Ev.congr (f := _) (fun k => if_pos rfl) ?_
  dsimp only
  rw [wr1 (x := (l.length : Int) + 5) (by omega) (by omega), decide_eq_false (by omega)]
  refine Ev.step (fun k => by simp only [cressetlaw01_CodecTorn.j0]; rfl) ?_
  refine Ev.congr (f := _) (fun k => if_neg (by decide)) ?_
  refine Ev.bind (clone_ev f (by omega)) ?_
  refine Ev.congr (f := _) (fun k => if_pos (by omega)) ?_
  have hfr : Bytes (f ++ r) := by
    intro x hx
    rcases List.mem_append.mp hx with hx | hx
    · exact hfb x hx
    · exact hrb x hx
  refine Ev.bind (unframe_ev _ hfr (by rw [List.length_append]; omega)) ?_
  have u1 : U (f ++ r) = (l, (f.length : Int), 0) := by
    have ht4 : (tail4 (S l)).length = 4 := rfl
    rw [hf, List.append_assoc, U_I hm _ (by simp only [List.length_append, ht4]; omega)]
    have e1 : ((l ++ tail4 (S l)) ++ r).take l.length = l := by rw [List.append_assoc, List.take_left' rfl]
    have e2 : (((l ++ tail4 (S l)) ++ r).take (l.length + 4)).drop l.length = tail4 (S l) := by
      rw [List.take_left' (by rw [List.length_append, ht4]), List.drop_left' rfl]
    rw [e1, e2, tail_val _ hSr.1 hSr.2, if_pos rfl, ← hf, hfl]
    simp only [Prod.mk.injEq, true_and, and_true]
    omega
  rw [u1]
  refine Ev.congr (f := _) (fun k => if_pos rfl) ?_
  refine Ev.congr (f := _) (fun k => if_pos rfl) ?_
  refine Ev.bind (eq_ev _) ?_
  refine Ev.step (fun k => by simp only [cressetlaw01_CodecTorn.j1]; rfl) ?_
  refine Ev.congr (f := _) (fun k => if_neg (by decide)) ?_
  refine Ev.congr (f := _) (fun k => if_neg (by omega)) ?_
  rw [wr1 (x := n) (by omega) (by omega), wr1 (x := (l.length : Int) + 4) (by omega) (by omega)]
  have m1 : Int.tmod n (f.length : Int) = n % (f.length : Int) := Int.tmod_eq_emod_of_nonneg hn.1
  have m2 : Int.tmod n ((l.length : Int) + 4) = n % ((l.length : Int) + 4) := Int.tmod_eq_emod_of_nonneg hn.1
  have m3 : Int.tmod n 8 = n % 8 := Int.tmod_eq_emod_of_nonneg hn.1
  rw [m1, m2, m3]
  have g1 := Int.emod_nonneg n (b := (f.length : Int)) (by omega)
  have g2 := Int.emod_lt_of_pos n (b := (f.length : Int)) (by omega)
  have g3 := Int.emod_nonneg n (b := (l.length : Int) + 4) (by omega)
  have g4 := Int.emod_lt_of_pos n (b := (l.length : Int) + 4) (by omega)
  have g5 : 0 ≤ n % 8 ∧ n % 8 < 8 := by omega
  generalize n % (f.length : Int) = j at *
  generalize n % ((l.length : Int) + 4) = i at *
  generalize n % 8 = y at *
  refine Ev.congr (f := _) (fun k => if_pos g1) ?_
  refine Ev.congr (f := _) (fun k => if_pos (by omega)) ?_
  refine Ev.bind (unframe_ev _ (hfb.take _) (by simp; omega)) ?_
  have u2 : (U (f.take j.toNat)).2.2 = 10 := by
    by_cases c : j.toNat < (I l.length).length
    · have : f.take j.toNat = (I l.length).take j.toNat := by rw [hf, List.take_append_of_le_length (by omega)]
      rw [this]
      unfold U
      rw [P_short h6 _ c]
      rfl
    · have : f.take j.toNat = I l.length ++ (l ++ tail4 (S l)).take (j.toNat - (I l.length).length) := by rw [hf, List.take_append, List.take_of_length_le (by omega)]
      rw [I_length] at c
      have hjl : (f.take j.toNat).length = j.toNat := by simp <;> omega
      unfold U
      rw [hjl, this, P_I h6]
      simp only [if_true]
      rw [if_neg (by omega), if_neg (by omega), if_pos (by omega)]
  rw [u2]
  refine Ev.congr (f := _) (fun k => if_pos rfl) ?_
  refine Ev.congr (f := _) (fun k => if_neg (by omega)) ?_
  rw [wr1 (x := (f.length : Int) - (l.length : Int)) (by omega) (by omega), wr1 (x := (f.length : Int) - (l.length : Int) - 4) (by omega) (by omega), wr1 (x := (f.length : Int) - (l.length : Int) - 4 + i) (by omega) (by omega)]
  refine Ev.congr (f := _) (fun k => if_pos (by omega)) ?_
  refine Ev.congr (f := _) (fun k => if_pos (by omega)) ?_
  refine Ev.congr (f := _) (fun k => if_pos g5.1) ?_
  obtain ⟨z, hz⟩ : ∃ z : Nat, (z : Int) = i := ⟨i.toNat, by omega⟩
  have hat : (f.length : Int) - (l.length : Int) - 4 + i = ((1 + kw l.length + z : Nat) : Int) := by omega
  rw [hat, Int.toNat_natCast]
  have hzl : z < (l ++ tail4 (S l)).length := by
    have ht4 : (tail4 (S l)).length = 4 := rfl
    rw [List.length_append, ht4]; omega
  have hzf : 1 + kw l.length + z < f.length := by omega
  have hg : f[1 + kw l.length + z] = (l ++ tail4 (S l))[z] := by
    have h2 : f[1 + kw l.length + z]? = (l ++ tail4 (S l))[z]? := by
      rw [hf, List.getElem?_append_right (by rw [I_length]; omega), I_length, show 1 + kw l.length + z - (1 + kw l.length) = z by omega]
    rw [List.getElem?_eq_getElem hzf, List.getElem?_eq_getElem hzl] at h2
    exact Option.some.inj h2
  rw [rd_get f _ hzf, hg]
  have hgb := hqb.get z hzl
  have hfb2 := flip_bit _ y hgb g5
  generalize Go.bits .xor .u8 (l ++ tail4 (S l))[z] (shl .u8 1 y) = v at *
  have hset : f.set (1 + kw l.length + z) v = I l.length ++ (l ++ tail4 (S l)).set z v := by
    rw [hf, List.set_append_right _ _ (by rw [I_length]; omega), I_length, show 1 + kw l.length + z - (1 + kw l.length) = z by omega]
  have hsb : Bytes (f.set (1 + kw l.length + z) v) := by
    intro x hx
    rcases List.mem_or_eq_of_mem_set hx with hx | hx
    · exact hfb x hx
    · rw [hx]; exact hfb2.1
  refine Ev.bind (unframe_ev _ hsb (by rw [List.length_set]; omega)) ?_
  have u3 : (U (f.set (1 + kw l.length + z) v)).2.2 = 12 := by
    have ht4 : (tail4 (S l)).length = 4 := rfl
    rw [hset, U_I hm _ (by rw [List.length_set, List.length_append, ht4]; omega)]
    rw [if_neg ?_]
    by_cases c : z < l.length
    · have e0 : (l ++ tail4 (S l)).set z v = l.set z v ++ tail4 (S l) := by rw [List.set_append_left _ _ c]
      have e1 : (l.set z v ++ tail4 (S l)).take l.length = l.set z v := List.take_left' (by rw [List.length_set])
      have e2 : ((l.set z v ++ tail4 (S l)).take (l.length + 4)).drop l.length = tail4 (S l) := by
        rw [List.take_of_length_le (by rw [List.length_append, List.length_set, ht4]; omega), List.drop_left' (by rw [List.length_set])]
      rw [e0, e1, e2, tail_val _ hSr.1 hSr.2]
      have hd : (l ++ tail4 (S l))[z] = l[z] := List.getElem_append_left c
      rw [hd] at hfb2 hgb
      have hsplit : l = l.take z ++ l[z] :: l.drop (z + 1) := by rw [← List.drop_eq_getElem_cons c, List.take_append_drop]
      have hset2 : l.set z v = l.take z ++ v :: l.drop (z + 1) := List.set_eq_take_append_cons_drop .. |>.trans (by rw [if_pos c])
      have := S_ne (l.take z) (l.drop (z + 1)) l[z] v hgb hfb2.1 hfb2.2
      rw [hset2]
      rw [← hsplit] at this
      exact this
    · have e0 : (l ++ tail4 (S l)).set z v = l ++ (tail4 (S l)).set (z - l.length) v := by rw [List.set_append_right _ _ (by omega)]
      have e1 : (l ++ (tail4 (S l)).set (z - l.length) v).take l.length = l := List.take_left' rfl
      have e2 : ((l ++ (tail4 (S l)).set (z - l.length) v).take (l.length + 4)).drop l.length = (tail4 (S l)).set (z - l.length) v := by
        rw [List.take_of_length_le (by rw [List.length_append, List.length_set, ht4]; omega), List.drop_left' rfl]
      rw [e0, e1, e2]
      have hj4 : z - l.length < 4 := by rw [List.length_append, ht4] at hzl; omega
      have hd : (l ++ tail4 (S l))[z] = (tail4 (S l))[z - l.length]'(by rw [ht4]; exact hj4) := List.getElem_append_right (by omega)
      rw [hd] at hfb2
      exact fun h => tail_ne _ hSr.1 hSr.2 _ hj4 v hfb2.1 hfb2.2 h.symm
  rw [u3]
  exact Ev.now _

end Go.Proofs.Ytphdinelioendaa.Pure

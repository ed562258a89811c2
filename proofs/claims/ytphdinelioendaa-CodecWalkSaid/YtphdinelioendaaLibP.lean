import Derived.Test.YtphdinelioendaaLibB
namespace Go.Proofs.Ytphdinelioendaa.Lib
open Go.RowKit Go.Proofs.Ytphdinelioendaa.B Go.Proofs.YtphdinelioendaaW.PrintWords Go.Proofs.YtphdinelioendaaW.PrintLast Go.Proofs.YtphdinelioendaaW.PrintMore
set_option linter.unusedVariables false
set_option linter.unusedSimpArgs false

/-! ### there and back -/
theorem valA_dig : ∀ (k : Nat) (a u : Int), valA a (dig k u) = (a - u / 256 ^ k) * 256 ^ k + u
  | 0, a, u => by simp [dig, valA]
  | k + 1, a, u => by
    have e : valA a (dig (k + 1) u) = valA (a * 256 + u / 256 ^ k % 256) (dig k u) := rfl
    have p := p256 k
    rw [e, valA_dig k, p256s]
    have hd : u / (256 ^ k * 256) = u / 256 ^ k / 256 := by rw [Int.ediv_ediv_of_nonneg (Int.le_of_lt p)]
    rw [hd]
    generalize hq : u / 256 ^ k = q
    generalize (256 : Int) ^ k = P at *
    have h1 : a * 256 + q % 256 - q = (a - q / 256) * 256 := by omega
    rw [h1, Int.mul_assoc, Int.mul_comm 256 P]
theorem val_dig {k : Nat} {u : Int} (h0 : 0 ≤ u) (h : u < 256 ^ k) : valA 0 (dig k u) = u := by
  rw [valA_dig, Int.ediv_eq_zero_of_lt h0 h]
  simp
theorem dig_val : ∀ (ds : List Int) (a : Int), Bytes ds → 0 ≤ a → dig ds.length (valA a ds) = ds
  | [], _, _, _ => rfl
  | d :: t, a, hb, ha => by
    have hd := hb d (by simp)
    have e : valA a (d :: t) = valA (a * 256 + d) t := rfl
    have hr := valA_range t (a * 256 + d) hb.tail (by omega)
    have p := p256 t.length
    rw [e, List.length_cons]
    show (valA (a * 256 + d) t / 256 ^ t.length) % 256 :: dig t.length (valA (a * 256 + d) t) = d :: t
    rw [dig_val t _ hb.tail (by omega)]
    have h1 : valA (a * 256 + d) t / 256 ^ t.length = a * 256 + d := by
      have h2 := Int.le_ediv_of_mul_le p hr.1
      have h3 := Int.ediv_lt_of_lt_mul p hr.2
      omega
    rw [h1]
    congr 1
    omega
theorem map_fl_fl (b : Bool) (l : List Int) : (l.map (fl b)).map (fl b) = l := by
  rw [List.map_map]
  conv => rhs; rw [← List.map_id l]
  exact List.map_congr_left (fun x _ => fl_fl b x)
theorem I_bytes {n : Int} (h : i64 n) : Bytes (I n) := by
  have hk := kw_le h
  unfold I
  by_cases c : kw n = 0
  · have := kw_small h c
    rw [if_pos c]
    intro x hx
    simp at hx
    omega
  · rw [if_neg c]
    intro x hx
    rcases List.mem_cons.mp hx with rfl | hx
    · split <;> omega
    · exact Bytes.fl (dig_byte _ _) _ x hx
theorem mag_eq (n : Int) : (if ng n then -1 - mag n else mag n) = n := by
  unfold ng mag
  by_cases c : n < 0
  · rw [decide_eq_true c, if_pos c, if_pos rfl]; omega
  · rw [decide_eq_false c, if_neg c, if_neg (by decide)]
theorem P_I {n : Int} (h : i64 n) (rest : List Int) : P (I n ++ rest) = (n, 1 + (kw n : Int), 0) := by
  have hk := kw_le h
  unfold I
  by_cases c : kw n = 0
  · have := kw_small h c
    rw [if_pos c]
    simp only [P, List.singleton_append]
    rw [if_neg (by omega), if_neg (by omega), if_neg (by omega), c, show n + 108 - 108 = n by omega]
    rfl
  · have hm := kw_mag h c
    have hu : mag n < 9223372036854775808 := by obtain ⟨h0, h1⟩ := h; unfold mag; split <;> omega
    have key : par (kw n) (ng n) ((dig (kw n) (mag n)).map (fl (ng n)) ++ rest) = (n, 1 + (kw n : Int), 0) := by
      unfold par
      rw [if_neg (by simp [dig_length] <;> omega), List.take_left' (by simp [dig_length]), map_fl_fl, val_dig hm.1.2.1 hm.1.2.2.1]
      unfold fin
      rw [if_pos hu, mag_eq, if_pos rfl]
    rw [if_neg c]
    simp only [P, List.cons_append]
    by_cases d : n < 0
    · rw [if_pos d, if_neg (by omega), if_neg (by omega), if_pos (by omega), show (8 - (8 - (kw n : Int))).toNat = kw n by omega]
      rw [show ng n = true from decide_eq_true d] at key ⊢
      exact key
    · rw [if_neg d, if_neg (by omega), if_pos (by omega), show (208 + (kw n : Int) - 208).toNat = kw n by omega]
      rw [show ng n = false from decide_eq_false d] at key ⊢
      exact key
theorem P_I0 {n : Int} (h : i64 n) : P (I n) = (n, 1 + (kw n : Int), 0) := by
  have := P_I h []
  rwa [List.append_nil] at this
theorem P_short {n : Int} (h : i64 n) (j : Nat) (hj : j < (I n).length) : P ((I n).take j) = (0, 0, 10) := by
  have hk := kw_le h
  rw [I_length] at hj
  cases j with
  | zero => simp [P]
  | succ j =>
    have c : kw n ≠ 0 := by omega
    unfold I
    rw [if_neg c, List.take_succ_cons]
    have key : ∀ b, par (kw n) b (((dig (kw n) (mag n)).map (fl (ng n))).take j) = (0, 0, 10) := by
      intro b
      unfold par
      rw [if_pos (by simp [dig_length] <;> omega)]
    simp only [P]
    by_cases d : n < 0
    · rw [if_pos d, if_neg (by omega), if_neg (by omega), if_pos (by omega), show (8 - (8 - (kw n : Int))).toNat = kw n by omega]
      exact key _
    · rw [if_neg d, if_neg (by omega), if_pos (by omega), show (208 + (kw n : Int) - 208).toNat = kw n by omega]
      exact key _
theorem par_ok {k : Nat} {b : Bool} {t : List Int} (hk1 : 1 ≤ k) (hk : k ≤ 8) (ht : Bytes t) {n s : Int} (h : par k b t = (n, s, 0)) : i64 n ∧ kw n = k ∧ s = 1 + (k : Int) ∧ k ≤ t.length ∧ ng n = b ∧ (dig k (mag n)).map (fl b) = t.take k := by
  unfold par at h
  by_cases c : t.length < k
  · rw [if_pos c] at h; simp at h
  · rw [if_neg c] at h
    have hlen : ((t.take k).map (fl b)).length = k := by simp <;> omega
    have hb : Bytes ((t.take k).map (fl b)) := (ht.take k).fl b
    have hr := valA_range _ 0 hb (Int.le_refl 0)
    have hv := dig_val _ 0 hb (Int.le_refl 0)
    rw [hlen] at hv
    rw [Int.zero_mul] at hr
    unfold fin at h
    generalize hu : valA 0 ((t.take k).map (fl b)) = u at *
    by_cases c1 : u < 9223372036854775808
    · rw [if_pos c1] at h
      by_cases c2 : kw (if b then -1 - u else u) = k
      · rw [if_pos c2] at h
        simp only [Prod.mk.injEq] at h
        obtain ⟨rfl, rfl, _⟩ := h
        have hn : i64 (if b then -1 - u else u) := by cases b <;> simp [i64] <;> omega
        have hm : mag (if b then -1 - u else u) = u := by cases b <;> simp [mag] <;> omega
        have hg : ng (if b then -1 - u else u) = b := by cases b <;> simp [ng] <;> omega
        refine ⟨hn, c2, rfl, by omega, hg, ?_⟩
        rw [hm, hv, map_fl_fl]
      · rw [if_neg c2] at h; simp at h
    · rw [if_neg c1] at h; simp at h
theorem P_ok {l : List Int} (hl : Bytes l) {n s : Int} (h : P l = (n, s, 0)) : i64 n ∧ s = 1 + (kw n : Int) ∧ 1 + kw n ≤ l.length ∧ I n = l.take (1 + kw n) := by
  cases l with
  | nil => simp [P] at h
  | cons a t =>
    have ha := hl a (by simp)
    simp only [P] at h
    by_cases c1 : a > 216
    · rw [if_pos c1] at h; simp at h
    · rw [if_neg c1] at h
      by_cases c2 : a > 208
      · rw [if_pos c2] at h
        obtain ⟨h1, h2, h3, h4, h5, h6⟩ := par_ok (by omega) (by omega) hl.tail h
        have hz : kw n ≠ 0 := by omega
        have hd : ¬ n < 0 := of_decide_eq_false h5
        refine ⟨h1, by omega, by simp; omega, ?_⟩
        unfold I
        rw [if_neg hz, if_neg hd, h5, h2, h6, Nat.add_comm 1, List.take_succ_cons]
        congr 1
        omega
      · rw [if_neg c2] at h
        by_cases c3 : a < 8
        · rw [if_pos c3] at h
          obtain ⟨h1, h2, h3, h4, h5, h6⟩ := par_ok (by omega) (by omega) hl.tail h
          have hz : kw n ≠ 0 := by omega
          have hd : n < 0 := of_decide_eq_true h5
          refine ⟨h1, by omega, by simp; omega, ?_⟩
          unfold I
          rw [if_neg hz, if_pos hd, h5, h2, h6, Nat.add_comm 1, List.take_succ_cons]
          congr 1
          omega
        · rw [if_neg c3] at h
          simp only [Prod.mk.injEq] at h
          obtain ⟨rfl, rfl, _⟩ := h
          have hk : kw (a - 108) = 0 := by unfold kw; rw [if_neg (by omega), if_neg (by omega)]
          refine ⟨⟨by omega, by omega⟩, by rw [hk]; rfl, by rw [hk]; simp, ?_⟩
          unfold I
          rw [if_pos hk, hk, show a - 108 + 108 = a by omega]
          rfl
theorem par_err {k : Nat} {b : Bool} {t : List Int} {n s e : Int} (h : par k b t = (n, s, e)) : e = 0 ∨ e = 10 ∨ e = 11 := by
  unfold par fin at h
  (repeat' split at h) <;> simp at h <;> omega
theorem P_err {l : List Int} {n s e : Int} (h : P l = (n, s, e)) : e = 0 ∨ e = 10 ∨ e = 11 := by
  cases l with
  | nil => simp [P] at h; omega
  | cons a t =>
    simp only [P] at h
    (repeat' split at h) <;> first | exact par_err h | (simp at h; omega)

end Go.Proofs.Ytphdinelioendaa.Lib

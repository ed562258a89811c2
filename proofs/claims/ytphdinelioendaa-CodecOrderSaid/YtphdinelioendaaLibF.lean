import Derived.Test.YtphdinelioendaaLibD
import Derived.Test.YtphdinelioendaaBx10
namespace Go.Proofs.Ytphdinelioendaa.Lib
open Go.RowKit Go.Proofs.Ytphdinelioendaa.B Go.Proofs.YtphdinelioendaaW.PrintWords Go.Proofs.YtphdinelioendaaW.PrintLast Go.Proofs.YtphdinelioendaaW.PrintMore
set_option linter.unusedVariables false
set_option linter.unusedSimpArgs false

/-! ### the order of bytes -/
/-- l is below m at a place -/
def Lt (l m : List Int) : Prop := ∃ p x y s t, l = p ++ x :: s ∧ m = p ++ y :: t ∧ x < y
theorem Lt.cons {a : Int} {l m : List Int} (h : Lt l m) : Lt (a :: l) (a :: m) := by
  obtain ⟨p, x, y, s, t, rfl, rfl, h⟩ := h
  exact ⟨a :: p, x, y, s, t, rfl, rfl, h⟩
theorem Lt.pre {l m : List Int} (h : Lt l m) : ∀ p : List Int, Lt (p ++ l) (p ++ m)
  | [] => h
  | a :: p => (Lt.pre h p).cons
theorem Lt.app {l m : List Int} (h : Lt l m) (s t : List Int) : Lt (l ++ s) (m ++ t) := by
  obtain ⟨p, x, y, s', t', rfl, rfl, h⟩ := h
  exact ⟨p, x, y, s' ++ s, t' ++ t, by simp, by simp, h⟩
theorem Lt.head {x y : Int} (h : x < y) (s t : List Int) : Lt (x :: s) (y :: t) := ⟨[], x, y, s, t, rfl, rfl, h⟩
theorem split_dig {u : Int} (k : Nat) : u % 256 ^ (k + 1) = u / 256 ^ k % 256 * 256 ^ k + u % 256 ^ k := by
  have p := p256 k
  rw [p256s, Int.emod_def, Int.emod_def u (256 ^ k), ← Int.ediv_ediv_of_nonneg (Int.le_of_lt p)]
  generalize hQ : u / 256 ^ k = Q
  generalize (256 : Int) ^ k = P at *
  have h1 : Q % 256 = Q - 256 * (Q / 256) := Int.emod_def Q 256
  rw [h1, Int.sub_mul, Int.mul_assoc P 256, Int.mul_comm P (256 * (Q / 256)), Int.mul_comm P Q]
  omega
theorem dig_lt (neg : Bool) : ∀ (k : Nat) (u v : Int), u % 256 ^ k < v % 256 ^ k → (if neg then Lt ((dig k v).map (fl neg)) ((dig k u).map (fl neg)) else Lt ((dig k u).map (fl neg)) ((dig k v).map (fl neg)))
  | 0, u, v, h => by
    rw [Int.pow_zero, Int.emod_one, Int.emod_one] at h
    omega
  | k + 1, u, v, h => by
    have p := p256 k
    rw [split_dig, split_dig] at h
    have hu := Int.emod_lt_of_pos u p
    have hv := Int.emod_lt_of_pos v p
    have hu0 := Int.emod_nonneg u (b := 256 ^ k) (by omega)
    have hv0 := Int.emod_nonneg v (b := 256 ^ k) (by omega)
    show if neg then Lt (fl neg (v / 256 ^ k % 256) :: (dig k v).map (fl neg)) (fl neg (u / 256 ^ k % 256) :: (dig k u).map (fl neg)) else Lt (fl neg (u / 256 ^ k % 256) :: (dig k u).map (fl neg)) (fl neg (v / 256 ^ k % 256) :: (dig k v).map (fl neg))
    have ih := dig_lt neg k u v
    generalize u / 256 ^ k % 256 = x at *
    generalize v / 256 ^ k % 256 = y at *
    generalize u % 256 ^ k = a at *
    generalize v % 256 ^ k = b at *
    generalize (256 : Int) ^ k = P at *
    rcases Int.lt_trichotomy x y with c | c | c
    · cases neg
      · exact Lt.head c _ _
      · exact Lt.head (show 255 - y < 255 - x by omega) _ _
    · subst c
      have := ih (by omega)
      cases neg
      · exact Lt.cons this
      · exact Lt.cons this
    · exfalso
      have h2 : (y + 1) * P ≤ x * P := Int.mul_le_mul_of_nonneg_right (by omega) (by omega)
      rw [Int.add_mul, Int.one_mul] at h2
      omega
theorem NB.mono {u v : Int} {a b : Nat} (ha : NB u a) (hb : NB v b) (h : u ≤ v) : a ≤ b := by
  obtain ⟨a1, a2, a3, a4⟩ := ha
  obtain ⟨b1, b2, b3, b4⟩ := hb
  rcases a4 with h2 | h2
  · omega
  · have := p256_cancel (a := a - 1) (b := b) (by omega); omega
def hd (n : Int) : Int := if kw n = 0 then n + 108 else if n < 0 then 8 - (kw n : Int) else 208 + (kw n : Int)
theorem I_eq (n : Int) : I n = hd n :: (dig (kw n) (mag n)).map (fl (ng n)) := by
  unfold I hd
  by_cases c : kw n = 0
  · rw [if_pos c, if_pos c, c]; rfl
  · rw [if_neg c, if_neg c]
/-- ints' bytes have their order -/
theorem I_lt {a b : Int} (ha : i64 a) (hb : i64 b) (h : a < b) : Lt (I a) (I b) := by
  have ka := kw_le ha
  have kb := kw_le hb
  rw [I_eq, I_eq]
  by_cases za : kw a = 0
  · have sa := kw_small ha za
    by_cases zb : kw b = 0
    · have sb := kw_small hb zb
      refine Lt.head ?_ _ _
      unfold hd
      rw [if_pos za, if_pos zb]; omega
    · have sb := (kw_mag hb zb).2
      refine Lt.head ?_ _ _
      unfold hd
      rw [if_pos za, if_neg zb, if_neg (show ¬ b < 0 by omega)]; omega
  · have na := kw_mag ha za
    by_cases zb : kw b = 0
    · have sb := kw_small hb zb
      refine Lt.head ?_ _ _
      unfold hd
      rw [if_neg za, if_pos zb, if_pos (show a < 0 by omega)]; omega
    · have nb := kw_mag hb zb
      by_cases ca : a < 0
      · by_cases cb : b < 0
        · have ma : mag a = -1 - a := if_pos ca
          have mb : mag b = -1 - b := if_pos cb
          have hm := NB.mono nb.1 na.1 (by omega)
          rcases Nat.lt_or_ge (kw b) (kw a) with c | c
          · refine Lt.head ?_ _ _
            unfold hd
            rw [if_neg za, if_neg zb, if_pos ca, if_pos cb]; omega
          · have e : kw a = kw b := by omega
            have e2 : hd a = hd b := by
              unfold hd
              rw [if_neg za, if_neg zb, if_pos ca, if_pos cb, e]
            have ga : ng a = true := decide_eq_true ca
            have gb : ng b = true := decide_eq_true cb
            rw [e2, ga, gb, e]
            have u1 := na.1.2.2.1
            rw [e] at u1
            have := dig_lt true (kw b) (mag b) (mag a) (by
              rw [Int.emod_eq_of_lt nb.1.2.1 nb.1.2.2.1, Int.emod_eq_of_lt na.1.2.1 u1]; omega)
            exact Lt.cons this
        · refine Lt.head ?_ _ _
          unfold hd
          rw [if_neg za, if_neg zb, if_pos ca, if_neg cb]; omega
      · have cb : ¬ b < 0 := by omega
        have ma : mag a = a := if_neg ca
        have mb : mag b = b := if_neg cb
        have hm := NB.mono na.1 nb.1 (by omega)
        rcases Nat.lt_or_ge (kw a) (kw b) with c | c
        · refine Lt.head ?_ _ _
          unfold hd
          rw [if_neg za, if_neg zb, if_neg ca, if_neg cb]; omega
        · have e : kw a = kw b := by omega
          have e2 : hd a = hd b := by
            unfold hd
            rw [if_neg za, if_neg zb, if_neg ca, if_neg cb, e]
          have ga : ng a = false := decide_eq_false ca
          have gb : ng b = false := decide_eq_false cb
          rw [e2, ga, gb, e]
          have u1 := na.1.2.2.1
          rw [e] at u1
          have := dig_lt false (kw b) (mag a) (mag b) (by
            rw [Int.emod_eq_of_lt nb.1.2.1 nb.1.2.2.1, Int.emod_eq_of_lt na.1.2.1 u1]; omega)
          exact Lt.cons this
def cm (a b : Int) : Int := if a < b then -1 else if a > b then 1 else 0
theorem cmp_refl : ∀ l : List UInt8, Go.Lib.compareBytes l l = 0
  | [] => rfl
  | a :: l => by
    simp only [Go.Lib.compareBytes]
    rw [if_neg (by simp), if_neg (by simp), cmp_refl l]
theorem cmp_pre : ∀ (p l m : List UInt8), Go.Lib.compareBytes (p ++ l) (p ++ m) = Go.Lib.compareBytes l m
  | [], _, _ => rfl
  | a :: p, l, m => by
    simp only [List.cons_append, Go.Lib.compareBytes]
    rw [if_neg (by simp), if_neg (by simp), cmp_pre p l m]
theorem lib_app (x y : List Int) : Go.Lib.bytesOf (x ++ y) = Go.Lib.bytesOf x ++ Go.Lib.bytesOf y := by simp [Go.Lib.bytesOf]
theorem lib_lt {x y : Int} (hx : 0 ≤ x ∧ x < 256) (hy : 0 ≤ y ∧ y < 256) (h : x < y) : UInt8.ofNat x.toNat < UInt8.ofNat y.toNat := by
  rw [UInt8.lt_iff_toNat_lt]
  simp
  omega
theorem cmp_lt {l m : List Int} (hl : Bytes l) (hm : Bytes m) (h : Lt l m) : Go.Lib.compareBytes (Go.Lib.bytesOf l) (Go.Lib.bytesOf m) = -1 ∧ Go.Lib.compareBytes (Go.Lib.bytesOf m) (Go.Lib.bytesOf l) = 1 := by
  obtain ⟨p, x, y, s, t, rfl, rfl, h⟩ := h
  have hx := hl x (by simp)
  have hy := hm y (by simp)
  have hlt := lib_lt hx hy h
  have hnl : ¬ UInt8.ofNat y.toNat < UInt8.ofNat x.toNat := by
    intro h2
    exact UInt8.lt_irrefl _ (UInt8.lt_trans hlt h2)
  rw [lib_app, lib_app, cmp_pre, cmp_pre]
  constructor
  · show (if UInt8.ofNat x.toNat < UInt8.ofNat y.toNat then (-1 : Int) else _) = -1
    rw [if_pos hlt]
  · show (if UInt8.ofNat y.toNat < UInt8.ofNat x.toNat then (-1 : Int) else if UInt8.ofNat x.toNat < UInt8.ofNat y.toNat then 1 else _) = 1
    rw [if_neg hnl, if_pos hlt]
theorem cmp_ints {a b : Int} (ha : i64 a) (hb : i64 b) (s t : List Int) (hs : Bytes s) (ht : Bytes t) (h : a ≠ b) : Go.Lib.compareBytes (Go.Lib.bytesOf (I a ++ s)) (Go.Lib.bytesOf (I b ++ t)) = cm a b := by
  have b1 : Bytes (I a ++ s) := by
    intro z hz
    rcases List.mem_append.mp hz with hz | hz
    · exact I_bytes ha z hz
    · exact hs z hz
  have b2 : Bytes (I b ++ t) := by
    intro z hz
    rcases List.mem_append.mp hz with hz | hz
    · exact I_bytes hb z hz
    · exact ht z hz
  unfold cm
  by_cases c : a < b
  · rw [if_pos c]; exact (cmp_lt b1 b2 ((I_lt ha hb c).app s t)).1
  · rw [if_neg c, if_pos (show a > b by omega)]; exact (cmp_lt b2 b1 ((I_lt hb ha (by omega)).app t s)).2
theorem cmpc_ev (a b : Int) : Ev (fun _ => cmp_Compare_int64.f a b) (cm a b) := by
  unfold cmp_Compare_int64.f cmp_isNaN_int64.f cm
  simp only [bne_self_eq_false, Option.bind_some]
  refine Ev.congr (f := fun _ => some _) (fun k => ?_) (Ev.now _)
  rw [if_neg (by decide), if_neg (by decide)]
  by_cases c : a < b
  · rw [if_pos c, if_pos c]
  · rw [if_neg c, if_neg c]
    by_cases d : a > b
    · rw [if_pos d, if_pos d]
    · rw [if_neg d, if_neg d]
end Go.Proofs.Ytphdinelioendaa.Lib

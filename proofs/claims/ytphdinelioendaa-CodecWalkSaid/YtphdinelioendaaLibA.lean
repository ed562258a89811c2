import Derived.Test.YtphdinelioendaaBx1
import Derived.Test.YtphdinelioendaaBx2
import Derived.Test.YtphdinelioendaaBx4
import Derived.Test.YtphdinelioendaaBx5
import Derived.Laws.BitsAllLaws
import Derived.Laws.Bits64b
namespace Go.Proofs.Ytphdinelioendaa.Lib
open Go.RowKit Go.Proofs.Ytphdinelioendaa.B Go.Proofs.YtphdinelioendaaW.PrintWords Go.Proofs.YtphdinelioendaaW.PrintLast Go.Proofs.YtphdinelioendaaW.PrintMore
set_option linter.unusedVariables false
set_option linter.unusedSimpArgs false

/-! ### numbers -/
theorem wr1 {x : Int} (h0 : -9223372036854775808 ≤ x) (h : x ≤ 9223372036854775807) : wrap64 x = x := by
  unfold wrap64; omega
theorem wu (x : Int) : IntKind.u64.wrap x = x % 18446744073709551616 := Go.IntKind.wrap_u64 x
theorem cpl (a : Int) (h0 : -9223372036854775808 ≤ a) (h1 : a ≤ 9223372036854775807) : Go.bits .xor .i64 (-1) a = -1 - a := by
  show IntKind.i64.wrap ((BitVec.ofInt 64 (-1) ^^^ BitVec.ofInt 64 a).toNat : Int) = _
  have e : BitVec.ofInt 64 (-1) = BitVec.allOnes 64 := by decide
  rw [e, BitVec.allOnes_xor, BitVec.toNat_not, BitVec.toNat_ofInt]
  simp only [IntKind.wrap, IntKind.bits, IntKind.signed]
  simp
  omega
theorem x8 (a : Int) (h0 : 0 ≤ a) (h1 : a < 256) : Go.bits .xor .u8 a 255 = 255 - a := by
  obtain ⟨n, rfl⟩ := Int.eq_ofNat_of_zero_le h0
  rw [show (255 : Int) = ((255 : Nat) : Int) from rfl, Go.u8_xor_nat n 255 (by omega) (by omega)]
  have : ∀ n : Fin 256, (n.1 ^^^ 255) = 255 - n.1 := by decide +kernel
  have := this ⟨n, by omega⟩
  simp only at this
  rw [this]
  omega
theorem x0 (a : Int) (h0 : 0 ≤ a) (h1 : a < 256) : Go.bits .xor .u8 a 0 = a := by
  obtain ⟨n, rfl⟩ := Int.eq_ofNat_of_zero_le h0
  rw [show (0 : Int) = ((0 : Nat) : Int) from rfl, Go.u8_xor_nat n 0 (by omega) (by omega)]
  simp
theorem or8 (a d : Int) (h0 : 0 ≤ a) (h1 : a < 72057594037927936) (d0 : 0 ≤ d) (d1 : d < 256) : Go.bits .or .u64 (IntKind.u64.wrap (a * 256)) (IntKind.u64.wrap d) = a * 256 + d := by
  obtain ⟨n, rfl⟩ := Int.eq_ofNat_of_zero_le h0
  obtain ⟨m, rfl⟩ := Int.eq_ofNat_of_zero_le d0
  rw [wu, wu, show ((n : Int) * 256 % 18446744073709551616) = ((n * 256 : Nat) : Int) by omega, show ((m : Int) % 18446744073709551616) = ((m : Nat) : Int) by omega, Go.bits_or_u64_nat _ _ (by omega) (by omega)]
  have := Nat.shiftLeft_add_eq_or_of_lt (i := 8) (b := m) (by omega) n
  rw [Nat.shiftLeft_eq] at this
  rw [show (256 : Nat) = 2 ^ 8 from rfl, ← this]
  omega
theorem or16 (a d : Int) (h0 : 0 ≤ a) (h1 : a < 65536) (d0 : 0 ≤ d) (d1 : d < 65536) : Go.bits .or .u32 ((a * 65536) % 4294967296) d = a * 65536 + d := by
  obtain ⟨n, rfl⟩ := Int.eq_ofNat_of_zero_le h0
  obtain ⟨m, rfl⟩ := Int.eq_ofNat_of_zero_le d0
  rw [show ((n : Int) * 65536 % 4294967296) = ((n * 65536 : Nat) : Int) by omega, Go.u32_or_nat _ _ (by omega) (by omega)]
  have := Nat.shiftLeft_add_eq_or_of_lt (i := 16) (b := m) (by omega) n
  rw [Nat.shiftLeft_eq] at this
  rw [show (65536 : Nat) = 2 ^ 16 from rfl, ← this]
  omega
theorem or8_32 (a d : Int) (h0 : 0 ≤ a) (h1 : a < 16777216) (d0 : 0 ≤ d) (d1 : d < 256) : Go.bits .or .u32 ((a * 256) % 4294967296) d = a * 256 + d := by
  obtain ⟨n, rfl⟩ := Int.eq_ofNat_of_zero_le h0
  obtain ⟨m, rfl⟩ := Int.eq_ofNat_of_zero_le d0
  rw [show ((n : Int) * 256 % 4294967296) = ((n * 256 : Nat) : Int) by omega, Go.u32_or_nat _ _ (by omega) (by omega)]
  have := Nat.shiftLeft_add_eq_or_of_lt (i := 8) (b := m) (by omega) n
  rw [Nat.shiftLeft_eq] at this
  rw [show (256 : Nat) = 2 ^ 8 from rfl, ← this]
  omega
theorem shr8 {k : IntKind} (hk : k.bits = 64) (u : Int) (j : Nat) (hj : j ≤ 8) : shr k u (8 * (j : Int)) = u / 256 ^ j := by
  unfold shr
  rw [hk, Nat.min_eq_left (by omega), show (8 * (j : Int)).toNat = 8 * j by omega, Int.pow_mul]
  rfl

/-! ### how many bytes a number has -/
/-- b bytes are just enough for u -/
def NB (u : Int) (b : Nat) : Prop := 1 ≤ b ∧ 0 ≤ u ∧ u < 256 ^ b ∧ (b = 1 ∨ 256 ^ (b - 1) ≤ u)
theorem p256 (b : Nat) : (0 : Int) < 256 ^ b := Int.pow_pos (by decide)
theorem p256s (b : Nat) : (256 : Int) ^ (b + 1) = 256 ^ b * 256 := Int.pow_succ ..
theorem p256_le {a b : Nat} (h : a ≤ b) : (256 : Int) ^ a ≤ 256 ^ b := by
  induction b with
  | zero => rw [Nat.le_zero.mp h]; exact Int.le_refl _
  | succ b ih =>
    rcases Nat.lt_or_ge a (b + 1) with h2 | h2
    · have := ih (by omega); have := p256 b; rw [p256s]; omega
    · rw [show a = b + 1 by omega]; exact Int.le_refl _
theorem p256_cancel {a b : Nat} (h : (256 : Int) ^ a < 256 ^ b) : a < b := by
  rcases Nat.lt_or_ge a b with h2 | h2
  · exact h2
  · have := p256_le h2; omega
theorem NB.uniq {u : Int} {a b : Nat} (ha : NB u a) (hb : NB u b) : a = b := by
  obtain ⟨a1, a2, a3, a4⟩ := ha
  obtain ⟨b1, b2, b3, b4⟩ := hb
  rcases Nat.lt_trichotomy a b with h | h | h
  · rcases b4 with h2 | h2
    · omega
    · have := p256_cancel (a := b - 1) (b := a) (by omega); omega
  · exact h
  · rcases a4 with h2 | h2
    · omega
    · have := p256_cancel (a := a - 1) (b := b) (by omega); omega
/-- the first of the lower j bytes that is not nought -/
def bwf : Nat → Int → Nat
  | 0, _ => 1
  | j + 1, u => if u < 256 ^ (j + 1) then bwf j u else j + 2
def bw (u : Int) : Nat := bwf 8 u
theorem bwf_nb (j : Nat) : ∀ (u : Int), 0 ≤ u → u < 256 ^ (j + 1) → NB u (bwf j u) := by
  induction j with
  | zero => exact fun u h0 h => ⟨Nat.le_refl 1, h0, h, .inl rfl⟩
  | succ j ih =>
    intro u h0 h
    unfold bwf
    by_cases c : u < 256 ^ (j + 1)
    · rw [if_pos c]; exact ih u h0 c
    · rw [if_neg c]; exact ⟨by omega, h0, h, .inr (Int.not_lt.mp c)⟩
theorem p9 : (256 : Int) ^ (8 + 1) = 4722366482869645213696 := by decide
theorem p8 : (256 : Int) ^ 8 = 18446744073709551616 := by decide
theorem bw_nb {u : Int} (h0 : 0 ≤ u) (h : u < 18446744073709551616) : NB u (bw u) := bwf_nb 8 u h0 (by have := p9; omega)
theorem bw_le {u : Int} (h0 : 0 ≤ u) (h : u < 18446744073709551616) : bw u ≤ 8 := by
  obtain ⟨_, _, _, h4⟩ := bw_nb h0 h
  rcases h4 with h4 | h4
  · omega
  · have e := p8
    have := p256_cancel (a := bw u - 1) (b := 8) (by omega)
    omega
theorem bytesOf_loop : ∀ (b : Nat) (u c : Int), NB u b → b ≤ 9 → 0 ≤ c → c + b ≤ 1000 → Ev (fun k => codec_bytesOf.l0 k u c) (c + b - 1)
  | 0, u, c, h, _, _, _ => absurd h.1 (by omega)
  | 1, u, c, h, _, _, _ => by
    have h3 : u < 256 ^ 1 := h.2.2.1
    refine Ev.step (f := fun _ => some (c + (1 : Nat) - 1)) (fun k => ?_) (Ev.now _)
    simp only [codec_bytesOf.l0]
    rw [if_neg (by have : (256 : Int) ^ 1 = 256 := by decide
                   omega)]
    congr 1; omega
  | b + 2, u, c, h, hb, c0, c1 => by
    obtain ⟨h1, h2, h3, h4⟩ := h
    replace h4 : (256 : Int) ^ (b + 1) ≤ u := by
      rcases h4 with h4 | h4
      · exact absurd h4 (by omega)
      · exact h4
    have h3 : u < 256 ^ (b + 2) := h3
    have pb := p256 b
    have hs : (256 : Int) ^ (b + 1) = 256 ^ b * 256 := p256s b
    have hs2 : (256 : Int) ^ (b + 2) = 256 ^ (b + 1) * 256 := p256s (b + 1)
    have hd : u / 256 < 256 ^ (b + 1) := by omega
    have hd2 : (256 : Int) ^ b ≤ u / 256 := by omega
    have hd3 : 0 ≤ u / 256 := by omega
    have ih := bytesOf_loop (b + 1) (u / 256) (c + 1) ⟨by omega, hd3, hd, .inr hd2⟩ (by omega) (by omega) (by omega)
    refine Ev.step (f := fun k => codec_bytesOf.l0 k (u / 256) (c + 1)) (fun k => ?_) ?_
    · simp only [codec_bytesOf.l0]
      rw [if_pos (by omega), wr1 (by omega) (by omega)]
    · rw [show c + ((b + 2 : Nat) : Int) - 1 = c + 1 + ((b + 1 : Nat) : Int) - 1 by omega]
      exact ih
theorem bytesOf_ev {u : Int} (h0 : 0 ≤ u) (h : u < 18446744073709551616) : Ev (fun k => codec_bytesOf.f k u) (bw u) := by
  have := bytesOf_loop (bw u) u 1 (bw_nb h0 h) (by have := bw_le h0 h; omega) (by omega) (by have := bw_le h0 h; omega)
  rw [show (1 : Int) + (bw u : Int) - 1 = bw u by omega] at this
  exact this
/-- the number of bytes behind the head -/
def kw (n : Int) : Nat := if n > 100 then bw n else if n < -100 then bw (-1 - n) else 0
def i64 (n : Int) : Prop := -9223372036854775808 ≤ n ∧ n ≤ 9223372036854775807
theorem kw_le {n : Int} (h : i64 n) : kw n ≤ 8 := by
  obtain ⟨h0, h1⟩ := h
  unfold kw
  split
  · exact bw_le (by omega) (by omega)
  · split
    · exact bw_le (by omega) (by omega)
    · omega
theorem width_ev {n : Int} (h : i64 n) : Ev (fun k => codec_Width.f k n) (1 + kw n) := by
  have hk := kw_le h
  obtain ⟨h0, h1⟩ := h
  unfold codec_Width.f kw at *
  by_cases c : n > 100
  · simp only [if_pos c] at hk ⊢
    refine Ev.bind (bytesOf_ev (by omega) (by omega)) ?_
    rw [wr1 (by omega) (by omega)]
    exact Ev.now _
  · simp only [if_neg c] at hk ⊢
    by_cases d : n < -100
    · simp only [if_pos d] at hk ⊢
      rw [cpl n h0 h1]
      refine Ev.bind (bytesOf_ev (by omega) (by omega)) ?_
      rw [wr1 (by omega) (by omega)]
      exact Ev.now _
    · simp only [if_neg d] at hk ⊢
      exact Ev.now _

/-! ### a number's bytes -/
def dig : Nat → Int → List Int
  | 0, _ => []
  | k + 1, u => (u / 256 ^ k) % 256 :: dig k u
theorem dig_length : ∀ (k : Nat) (u : Int), (dig k u).length = k
  | 0, _ => rfl
  | k + 1, u => by simp [dig, dig_length k u]
theorem dig_byte : ∀ (k : Nat) (u : Int), ∀ x ∈ dig k u, 0 ≤ x ∧ x < 256
  | 0, _, x, h => by simp [dig] at h
  | k + 1, u, x, h => by
    rcases List.mem_cons.mp h with rfl | h
    · omega
    · exact dig_byte k u x h
def fl (neg : Bool) (x : Int) : Int := if neg then 255 - x else x
theorem fl_fl (b : Bool) (x : Int) : fl b (fl b x) = x := by cases b <;> simp [fl]; omega
theorem fl_byte {b : Bool} {x : Int} (h : 0 ≤ x ∧ x < 256) : 0 ≤ fl b x ∧ fl b x < 256 := by cases b <;> simp [fl] <;> omega
def flipN (b : Bool) : Int := if b then 255 else 0
theorem xfl (b : Bool) {x : Int} (h : 0 ≤ x ∧ x < 256) : Go.bits .xor .u8 x (flipN b) = fl b x := by
  cases b
  · exact x0 x h.1 h.2
  · exact x8 x h.1 h.2
/-- what a number is by its head's side: the number itself, or its complement -/
def mag (n : Int) : Int := if n < 0 then -1 - n else n
def ng (n : Int) : Bool := decide (n < 0)
/-- an int's bytes -/
def I (n : Int) : List Int := if kw n = 0 then [n + 108] else (if n < 0 then 8 - (kw n : Int) else 208 + (kw n : Int)) :: (dig (kw n) (mag n)).map (fl (ng n))
theorem I_length (n : Int) : (I n).length = 1 + kw n := by
  unfold I
  split
  · simp; omega
  · simp [dig_length]; omega
theorem put_loop (u : Int) (h : 0 ≤ u) (b : Bool) : ∀ (j : Nat) (xs : List Int), j ≤ 8 → xs.length ≤ 140737488355300 - 0 + 0 - 0 → xs.length + j ≤ 140737488355300 → Ev (fun k => codec_PutInt.l0 k xs u (flipN b) (8 * (j : Int) - 8)) (xs ++ (dig j u).map (fl b))
  | 0, xs, _, _, _ => by
    refine Ev.step (f := fun _ => some xs) (fun k => ?_) (by simpa [dig] using Ev.now _)
    simp only [codec_PutInt.l0]
    rw [if_neg (by omega)]
  | j + 1, xs, hj, h1, h2 => by
    have ih := put_loop u h b j (xs ++ [fl b (u / 256 ^ j % 256)]) (by omega) (by simp; omega) (by simp; omega)
    refine Ev.step (f := fun k => codec_PutInt.l0 k (xs ++ [fl b (u / 256 ^ j % 256)]) u (flipN b) (8 * (j : Int) - 8)) (fun k => ?_) ?_
    · simp only [codec_PutInt.l0]
      rw [if_pos (by omega), if_pos (by omega), if_pos (by omega), show 8 * ((j + 1 : Nat) : Int) - 8 = 8 * (j : Int) by omega, shr8 rfl u j (by omega), xfl b (by omega), wr1 (by omega) (by omega)]
    · simpa [dig] using ih
theorem kw_mag {n : Int} (h : i64 n) (hk : kw n ≠ 0) : NB (mag n) (kw n) ∧ (n > 100 ∨ n < -100) := by
  obtain ⟨h0, h1⟩ := h
  unfold kw mag at *
  by_cases c : n > 100
  · simp only [if_pos c] at *
    rw [if_neg (by omega)]
    exact ⟨bw_nb (by omega) (by omega), .inl c⟩
  · simp only [if_neg c] at *
    by_cases d : n < -100
    · simp only [if_pos d] at *
      rw [if_pos (by omega)]
      exact ⟨bw_nb (by omega) (by omega), .inr d⟩
    · simp only [if_neg d] at hk
      exact absurd rfl hk
theorem kw_small {n : Int} (h : i64 n) (hk : kw n = 0) : -100 ≤ n ∧ n ≤ 100 := by
  obtain ⟨h0, h1⟩ := h
  unfold kw at hk
  by_cases c : n > 100
  · simp only [if_pos c] at hk
    have := (bw_nb (u := n) (by omega) (by omega)).1; omega
  · simp only [if_neg c] at hk
    by_cases d : n < -100
    · simp only [if_pos d] at hk
      have := (bw_nb (u := -1 - n) (by omega) (by omega)).1; omega
    · omega
theorem put_ev {n : Int} (h : i64 n) (xs : List Int) (hx : xs.length ≤ 140737488355200) : Ev (fun k => codec_PutInt.f k xs n) (xs ++ I n) := by
  have hk := kw_le h
  have hh := h
  obtain ⟨h0, h1⟩ := hh
  unfold codec_PutInt.f slices_Clip_byte_byte.f
  refine Ev.bind (Ev.now xs) (Ev.bind (width_ev h) ?_)
  rw [show (1 : Int) + (kw n : Int) - 1 = kw n by omega, wr1 (x := (kw n : Int)) (by omega) (by omega)]
  unfold I
  by_cases c : kw n = 0
  · have hs := kw_small h c
    rw [if_pos c]
    refine Ev.congr (f := fun _ => some (xs ++ [n + 108])) (fun k => ?_) (Ev.now _)
    rw [if_pos (by omega), if_pos (by omega), wr1 (by omega) (by omega), show (n + 108) % 256 = n + 108 by omega]
  · have hm := kw_mag h c
    have hu := hm.1.2.1
    rw [if_neg c]
    by_cases d : n < 0
    · have e : mag n = -1 - n := if_pos d
      have e2 : ng n = true := decide_eq_true d
      have lp := put_loop (-1 - n) (by omega) true (kw n) (xs ++ [8 - (kw n : Int)]) hk (by simp; omega) (by simp; omega)
      rw [if_pos d, cpl n h0 h1, e, e2]
      refine Ev.congr (f := fun k => codec_PutInt.j0 k xs (-1 - n) (kw n : Int) (wrap64 (8 - (kw n : Int))) 255) (fun k => ?_) ?_
      · rw [if_neg (by omega), if_pos d]
      · refine Ev.step (f := fun k => codec_PutInt.l0 k (xs ++ [8 - (kw n : Int)]) (-1 - n) (flipN true) (8 * (kw n : Int) - 8)) (fun k => ?_) (by simpa using lp)
        simp only [codec_PutInt.j0]
        rw [if_pos (by omega), wr1 (x := 8 - (kw n : Int)) (by omega) (by omega), wr1 (x := (kw n : Int) - 1) (by omega) (by omega), wr1 (by omega) (by omega), show (8 - (kw n : Int)) % 256 = 8 - (kw n : Int) by omega, show 8 * ((kw n : Int) - 1) = 8 * (kw n : Int) - 8 by omega]
        rfl
    · have e : mag n = n := if_neg d
      have e2 : ng n = false := decide_eq_false d
      have lp := put_loop n (by omega) false (kw n) (xs ++ [208 + (kw n : Int)]) hk (by simp; omega) (by simp; omega)
      rw [if_neg d, e, e2]
      refine Ev.congr (f := fun k => codec_PutInt.j0 k xs n (kw n : Int) (wrap64 (208 + (kw n : Int))) 0) (fun k => ?_) ?_
      · rw [if_neg (by omega), if_neg d]
      · refine Ev.step (f := fun k => codec_PutInt.l0 k (xs ++ [208 + (kw n : Int)]) n (flipN false) (8 * (kw n : Int) - 8)) (fun k => ?_) (by simpa using lp)
        simp only [codec_PutInt.j0]
        rw [if_pos (by omega), wr1 (x := 208 + (kw n : Int)) (by omega) (by omega), wr1 (x := (kw n : Int) - 1) (by omega) (by omega), wr1 (by omega) (by omega), show (208 + (kw n : Int)) % 256 = 208 + (kw n : Int) by omega, show 8 * ((kw n : Int) - 1) = 8 * (kw n : Int) - 8 by omega]
        rfl
end Go.Proofs.Ytphdinelioendaa.Lib

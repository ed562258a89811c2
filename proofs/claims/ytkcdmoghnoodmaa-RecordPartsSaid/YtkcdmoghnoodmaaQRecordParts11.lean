/-
Of the row RecordParts: printed walks and plain laws, merged (wip/claim2.py).
-/
import Derived.Test.YtkcdmoghnoodmaaQRecordParts3
import Derived.Test.YtkcdmoghnoodmaaQRecordParts4
import Derived.Test.YtkcdmoghnoodmaaQRecordParts5
import Derived.Test.YtkcdmoghnoodmaaQRecordParts6
import Derived.Test.YtkcdmoghnoodmaaQRecordParts7
import Derived.Laws.BitsAllLaws
import Derived.Laws.Bits64b
namespace Go.Proofs.Ytkcdmoghnoodmaa.Cod
open Go.RowKit Go.Proofs.Ytkcdmoghnoodmaa.B Go.Proofs.YtkcdmoghnoodmaaW.PrintWords Go.Proofs.YtkcdmoghnoodmaaW.PrintLast Go.Proofs.YtkcdmoghnoodmaaW.PrintMore
set_option linter.unusedVariables false
set_option linter.unusedSimpArgs false

theorem wr1 {x : Int} (h0 : -9223372036854775808 ≤ x) (h : x ≤ 9223372036854775807) : wrap64 x = x := by
  unfold wrap64; omega
theorem wu (x : Int) : IntKind.u64.wrap x = x % 18446744073709551616 := Go.IntKind.wrap_u64 x
theorem cpl (a : Int) (h0 : -9223372036854775808 ≤ a) (h1 : a ≤ 9223372036854775807) : Go.bits .xor .i64 (-1) a = -1 - a := by
  show IntKind.i64.wrap ((BitVec.ofInt 64 (-1) ^^^ BitVec.ofInt 64 a).toNat : Int) = _
  have e : BitVec.ofInt 64 (-1) = BitVec.allOnes 64 := by decide
  rw [e, BitVec.allOnes_xor, BitVec.toNat_not, BitVec.toNat_ofInt]
  simp only [IntKind.wrap, IntKind.bits, IntKind.signed]
  simp
  omega
theorem x8 (a : Int) (h0 : 0 ≤ a) (h1 : a < 256) : Go.bits .xor .u8 a 255 = 255 - a := by
  obtain ⟨n, rfl⟩ := Int.eq_ofNat_of_zero_le h0
  rw [show (255 : Int) = ((255 : Nat) : Int) from rfl, Go.u8_xor_nat n 255 (by omega) (by omega)]
  have : ∀ n : Fin 256, (n.1 ^^^ 255) = 255 - n.1 := by decide +kernel
  have := this ⟨n, by omega⟩
  simp only at this
  rw [this]
  omega
theorem x0 (a : Int) (h0 : 0 ≤ a) (h1 : a < 256) : Go.bits .xor .u8 a 0 = a := by
  obtain ⟨n, rfl⟩ := Int.eq_ofNat_of_zero_le h0
  rw [show (0 : Int) = ((0 : Nat) : Int) from rfl, Go.u8_xor_nat n 0 (by omega) (by omega)]
  simp
theorem or8 (a d : Int) (h0 : 0 ≤ a) (h1 : a < 72057594037927936) (d0 : 0 ≤ d) (d1 : d < 256) : Go.bits .or .u64 (IntKind.u64.wrap (a * 256)) (IntKind.u64.wrap d) = a * 256 + d := by
  obtain ⟨n, rfl⟩ := Int.eq_ofNat_of_zero_le h0
  obtain ⟨m, rfl⟩ := Int.eq_ofNat_of_zero_le d0
  rw [wu, wu, show ((n : Int) * 256 % 18446744073709551616) = ((n * 256 : Nat) : Int) by omega, show ((m : Int) % 18446744073709551616) = ((m : Nat) : Int) by omega, Go.bits_or_u64_nat _ _ (by omega) (by omega)]
  have := Nat.shiftLeft_add_eq_or_of_lt (i := 8) (b := m) (by omega) n
  rw [Nat.shiftLeft_eq] at this
  rw [show (256 : Nat) = 2 ^ 8 from rfl, ← this]
  omega
theorem shr8 {k : IntKind} (hk : k.bits = 64) (u : Int) (j : Nat) (hj : j ≤ 8) : shr k u (8 * (j : Int)) = u / 256 ^ j := by
  unfold shr
  rw [hk, Nat.min_eq_left (by omega), show (8 * (j : Int)).toNat = 8 * j by omega, Int.pow_mul]
  rfl

def NB (u : Int) (b : Nat) : Prop := 1 ≤ b ∧ 0 ≤ u ∧ u < 256 ^ b ∧ (b = 1 ∨ 256 ^ (b - 1) ≤ u)
theorem p256 (b : Nat) : (0 : Int) < 256 ^ b := Int.pow_pos (by decide)
theorem p256s (b : Nat) : (256 : Int) ^ (b + 1) = 256 ^ b * 256 := Int.pow_succ ..
theorem p256_le {a b : Nat} (h : a ≤ b) : (256 : Int) ^ a ≤ 256 ^ b := by
  induction b with
  | zero => rw [Nat.le_zero.mp h]; exact Int.le_refl _
  | succ b ih =>
    rcases Nat.lt_or_ge a (b + 1) with h2 | h2
    · have := ih (by omega); have := p256 b; rw [p256s]; omega
    · rw [show a = b + 1 by omega]; exact Int.le_refl _
theorem p256_cancel {a b : Nat} (h : (256 : Int) ^ a < 256 ^ b) : a < b := by
  rcases Nat.lt_or_ge a b with h2 | h2
  · exact h2
  · have := p256_le h2; omega
theorem NB.uniq {u : Int} {a b : Nat} (ha : NB u a) (hb : NB u b) : a = b := by
  obtain ⟨a1, a2, a3, a4⟩ := ha
  obtain ⟨b1, b2, b3, b4⟩ := hb
  rcases Nat.lt_trichotomy a b with h | h | h
  · rcases b4 with h2 | h2
    · omega
    · have := p256_cancel (a := b - 1) (b := a) (by omega); omega
  · exact h
  · rcases a4 with h2 | h2
    · omega
    · have := p256_cancel (a := a - 1) (b := b) (by omega); omega
def bwf : Nat → Int → Nat
  | 0, _ => 1
  | j + 1, u => if u < 256 ^ (j + 1) then bwf j u else j + 2
def bw (u : Int) : Nat := bwf 8 u
theorem bwf_nb (j : Nat) : ∀ (u : Int), 0 ≤ u → u < 256 ^ (j + 1) → NB u (bwf j u) := by
  induction j with
  | zero => exact fun u h0 h => ⟨Nat.le_refl 1, h0, h, .inl rfl⟩
  | succ j ih =>
    intro u h0 h
    unfold bwf
    by_cases c : u < 256 ^ (j + 1)
    · rw [if_pos c]; exact ih u h0 c
    · rw [if_neg c]; exact ⟨by omega, h0, h, .inr (Int.not_lt.mp c)⟩
theorem p9 : (256 : Int) ^ (8 + 1) = 4722366482869645213696 := by decide
theorem p8 : (256 : Int) ^ 8 = 18446744073709551616 := by decide
theorem bw_nb {u : Int} (h0 : 0 ≤ u) (h : u < 18446744073709551616) : NB u (bw u) := bwf_nb 8 u h0 (by have := p9; omega)
theorem bw_le {u : Int} (h0 : 0 ≤ u) (h : u < 18446744073709551616) : bw u ≤ 8 := by
  obtain ⟨_, _, _, h4⟩ := bw_nb h0 h
  rcases h4 with h4 | h4
  · omega
  · have e := p8
    have := p256_cancel (a := bw u - 1) (b := 8) (by omega)
    omega
theorem bytesOf_loop : ∀ (b : Nat) (u c : Int), NB u b → b ≤ 9 → 0 ≤ c → c + b ≤ 1000 → Ev (fun k => codec_bytesOf.l0 k u c) (c + b - 1)
  | 0, u, c, h, _, _, _ => absurd h.1 (by omega)
  | 1, u, c, h, _, _, _ => by
    have h3 : u < 256 ^ 1 := h.2.2.1
    refine Ev.step (f := fun _ => some (c + (1 : Nat) - 1)) (fun k => ?_) (Ev.now _)
    simp only [codec_bytesOf.l0]
    rw [if_neg (by have : (256 : Int) ^ 1 = 256 := by decide
                   omega)]
    congr 1; omega
  | b + 2, u, c, h, hb, c0, c1 => by
    obtain ⟨h1, h2, h3, h4⟩ := h
    replace h4 : (256 : Int) ^ (b + 1) ≤ u := by
      rcases h4 with h4 | h4
      · exact absurd h4 (by omega)
      · exact h4
    have h3 : u < 256 ^ (b + 2) := h3
    have pb := p256 b
    have hs : (256 : Int) ^ (b + 1) = 256 ^ b * 256 := p256s b
    have hs2 : (256 : Int) ^ (b + 2) = 256 ^ (b + 1) * 256 := p256s (b + 1)
    have hd : u / 256 < 256 ^ (b + 1) := by omega
    have hd2 : (256 : Int) ^ b ≤ u / 256 := by omega
    have hd3 : 0 ≤ u / 256 := by omega
    have ih := bytesOf_loop (b + 1) (u / 256) (c + 1) ⟨by omega, hd3, hd, .inr hd2⟩ (by omega) (by omega) (by omega)
    refine Ev.step (f := fun k => codec_bytesOf.l0 k (u / 256) (c + 1)) (fun k => ?_) ?_
    · simp only [codec_bytesOf.l0]
      rw [if_pos (by omega), wr1 (by omega) (by omega)]
    · rw [show c + ((b + 2 : Nat) : Int) - 1 = c + 1 + ((b + 1 : Nat) : Int) - 1 by omega]
      exact ih
theorem bytesOf_ev {u : Int} (h0 : 0 ≤ u) (h : u < 18446744073709551616) : Ev (fun k => codec_bytesOf.f k u) (bw u) := by
  have := bytesOf_loop (bw u) u 1 (bw_nb h0 h) (by have := bw_le h0 h; omega) (by omega) (by have := bw_le h0 h; omega)
  rw [show (1 : Int) + (bw u : Int) - 1 = bw u by omega] at this
  exact this
def kw (n : Int) : Nat := if n > 100 then bw n else if n < -100 then bw (-1 - n) else 0
def i64 (n : Int) : Prop := -9223372036854775808 ≤ n ∧ n ≤ 9223372036854775807
theorem kw_le {n : Int} (h : i64 n) : kw n ≤ 8 := by
  obtain ⟨h0, h1⟩ := h
  unfold kw
  split
  · exact bw_le (by omega) (by omega)
  · split
    · exact bw_le (by omega) (by omega)
    · omega
theorem width_ev {n : Int} (h : i64 n) : Ev (fun k => codec_Width.f k n) (1 + kw n) := by
  have hk := kw_le h
  obtain ⟨h0, h1⟩ := h
  unfold codec_Width.f kw at *
  by_cases c : n > 100
  · simp only [if_pos c] at hk ⊢
    refine Ev.bind (bytesOf_ev (by omega) (by omega)) ?_
    rw [wr1 (by omega) (by omega)]
    exact Ev.now _
  · simp only [if_neg c] at hk ⊢
    by_cases d : n < -100
    · simp only [if_pos d] at hk ⊢
      rw [cpl n h0 h1]
      refine Ev.bind (bytesOf_ev (by omega) (by omega)) ?_
      rw [wr1 (by omega) (by omega)]
      exact Ev.now _
    · simp only [if_neg d] at hk ⊢
      exact Ev.now _

def dig : Nat → Int → List Int
  | 0, _ => []
  | k + 1, u => (u / 256 ^ k) % 256 :: dig k u
theorem dig_length : ∀ (k : Nat) (u : Int), (dig k u).length = k
  | 0, _ => rfl
  | k + 1, u => by simp [dig, dig_length k u]
theorem dig_byte : ∀ (k : Nat) (u : Int), ∀ x ∈ dig k u, 0 ≤ x ∧ x < 256
  | 0, _, x, h => by simp [dig] at h
  | k + 1, u, x, h => by
    rcases List.mem_cons.mp h with rfl | h
    · omega
    · exact dig_byte k u x h
def fl (neg : Bool) (x : Int) : Int := if neg then 255 - x else x
theorem fl_fl (b : Bool) (x : Int) : fl b (fl b x) = x := by cases b <;> simp [fl]; omega
theorem fl_byte {b : Bool} {x : Int} (h : 0 ≤ x ∧ x < 256) : 0 ≤ fl b x ∧ fl b x < 256 := by cases b <;> simp [fl] <;> omega
def flipN (b : Bool) : Int := if b then 255 else 0
theorem xfl (b : Bool) {x : Int} (h : 0 ≤ x ∧ x < 256) : Go.bits .xor .u8 x (flipN b) = fl b x := by
  cases b
  · exact x0 x h.1 h.2
  · exact x8 x h.1 h.2
def mag (n : Int) : Int := if n < 0 then -1 - n else n
def ng (n : Int) : Bool := decide (n < 0)
def I (n : Int) : List Int := if kw n = 0 then [n + 108] else (if n < 0 then 8 - (kw n : Int) else 208 + (kw n : Int)) :: (dig (kw n) (mag n)).map (fl (ng n))
theorem I_length (n : Int) : (I n).length = 1 + kw n := by
  unfold I
  split
  · simp; omega
  · simp [dig_length]; omega
theorem put_loop (u : Int) (h : 0 ≤ u) (b : Bool) : ∀ (j : Nat) (xs : List Int), j ≤ 8 → xs.length ≤ 140737488355300 - 0 + 0 - 0 → xs.length + j ≤ 140737488355300 → Ev (fun k => codec_PutInt.l0 k xs u (flipN b) (8 * (j : Int) - 8)) (xs ++ (dig j u).map (fl b))
  | 0, xs, _, _, _ => by
    refine Ev.step (f := fun _ => some xs) (fun k => ?_) (by simpa [dig] using Ev.now _)
    simp only [codec_PutInt.l0]
    rw [if_neg (by omega)]
  | j + 1, xs, hj, h1, h2 => by
    have ih := put_loop u h b j (xs ++ [fl b (u / 256 ^ j % 256)]) (by omega) (by simp; omega) (by simp; omega)
    refine Ev.step (f := fun k => codec_PutInt.l0 k (xs ++ [fl b (u / 256 ^ j % 256)]) u (flipN b) (8 * (j : Int) - 8)) (fun k => ?_) ?_
    · simp only [codec_PutInt.l0]
      rw [if_pos (by omega), if_pos (by omega), if_pos (by omega), show 8 * ((j + 1 : Nat) : Int) - 8 = 8 * (j : Int) by omega, shr8 rfl u j (by omega), xfl b (by omega), wr1 (by omega) (by omega)]
    · simpa [dig] using ih
theorem kw_mag {n : Int} (h : i64 n) (hk : kw n ≠ 0) : NB (mag n) (kw n) ∧ (n > 100 ∨ n < -100) := by
  obtain ⟨h0, h1⟩ := h
  unfold kw mag at *
  by_cases c : n > 100
  · simp only [if_pos c] at *
    rw [if_neg (by omega)]
    exact ⟨bw_nb (by omega) (by omega), .inl c⟩
  · simp only [if_neg c] at *
    by_cases d : n < -100
    · simp only [if_pos d] at *
      rw [if_pos (by omega)]
      exact ⟨bw_nb (by omega) (by omega), .inr d⟩
    · simp only [if_neg d] at hk
      exact absurd rfl hk
theorem kw_small {n : Int} (h : i64 n) (hk : kw n = 0) : -100 ≤ n ∧ n ≤ 100 := by
  obtain ⟨h0, h1⟩ := h
  unfold kw at hk
  by_cases c : n > 100
  · simp only [if_pos c] at hk
    have := (bw_nb (u := n) (by omega) (by omega)).1; omega
  · simp only [if_neg c] at hk
    by_cases d : n < -100
    · simp only [if_pos d] at hk
      have := (bw_nb (u := -1 - n) (by omega) (by omega)).1; omega
    · omega
theorem put_ev {n : Int} (h : i64 n) (xs : List Int) (hx : xs.length ≤ 140737488355200) : Ev (fun k => codec_PutInt.f k xs n) (xs ++ I n) := by
  have hk := kw_le h
  have hh := h
  obtain ⟨h0, h1⟩ := hh
  unfold codec_PutInt.f slices_Clip_byte_byte.f
  refine Ev.bind (Ev.now xs) (Ev.bind (width_ev h) ?_)
  rw [show (1 : Int) + (kw n : Int) - 1 = kw n by omega, wr1 (x := (kw n : Int)) (by omega) (by omega)]
  unfold I
  by_cases c : kw n = 0
  · have hs := kw_small h c
    rw [if_pos c]
    refine Ev.congr (f := fun _ => some (xs ++ [n + 108])) (fun k => ?_) (Ev.now _)
    rw [if_pos (by omega), if_pos (by omega), wr1 (by omega) (by omega), show (n + 108) % 256 = n + 108 by omega]
  · have hm := kw_mag h c
    have hu := hm.1.2.1
    rw [if_neg c]
    by_cases d : n < 0
    · have e : mag n = -1 - n := if_pos d
      have e2 : ng n = true := decide_eq_true d
      have lp := put_loop (-1 - n) (by omega) true (kw n) (xs ++ [8 - (kw n : Int)]) hk (by simp; omega) (by simp; omega)
      rw [if_pos d, cpl n h0 h1, e, e2]
      refine Ev.congr (f := fun k => codec_PutInt.j0 k xs (-1 - n) (kw n : Int) (wrap64 (8 - (kw n : Int))) 255) (fun k => ?_) ?_
      · rw [if_neg (by omega), if_pos d]
      · refine Ev.step (f := fun k => codec_PutInt.l0 k (xs ++ [8 - (kw n : Int)]) (-1 - n) (flipN true) (8 * (kw n : Int) - 8)) (fun k => ?_) (by simpa using lp)
        simp only [codec_PutInt.j0]
        rw [if_pos (by omega), wr1 (x := 8 - (kw n : Int)) (by omega) (by omega), wr1 (x := (kw n : Int) - 1) (by omega) (by omega), wr1 (by omega) (by omega), show (8 - (kw n : Int)) % 256 = 8 - (kw n : Int) by omega, show 8 * ((kw n : Int) - 1) = 8 * (kw n : Int) - 8 by omega]
        rfl
    · have e : mag n = n := if_neg d
      have e2 : ng n = false := decide_eq_false d
      have lp := put_loop n (by omega) false (kw n) (xs ++ [208 + (kw n : Int)]) hk (by simp; omega) (by simp; omega)
      rw [if_neg d, e, e2]
      refine Ev.congr (f := fun k => codec_PutInt.j0 k xs n (kw n : Int) (wrap64 (208 + (kw n : Int))) 0) (fun k => ?_) ?_
      · rw [if_neg (by omega), if_neg d]
      · refine Ev.step (f := fun k => codec_PutInt.l0 k (xs ++ [208 + (kw n : Int)]) n (flipN false) (8 * (kw n : Int) - 8)) (fun k => ?_) (by simpa using lp)
        simp only [codec_PutInt.j0]
        rw [if_pos (by omega), wr1 (x := 208 + (kw n : Int)) (by omega) (by omega), wr1 (x := (kw n : Int) - 1) (by omega) (by omega), wr1 (by omega) (by omega), show (208 + (kw n : Int)) % 256 = 208 + (kw n : Int) by omega, show 8 * ((kw n : Int) - 1) = 8 * (kw n : Int) - 8 by omega]
        rfl

def valA (a : Int) (ds : List Int) : Int := ds.foldl (fun a d => a * 256 + d) a
def Bytes (l : List Int) : Prop := ∀ x ∈ l, 0 ≤ x ∧ x < 256
theorem Bytes.take {l : List Int} (h : Bytes l) (n : Nat) : Bytes (l.take n) := fun x hx => h x (List.mem_of_mem_take hx)
theorem Bytes.drop {l : List Int} (h : Bytes l) (n : Nat) : Bytes (l.drop n) := fun x hx => h x (List.mem_of_mem_drop hx)
theorem Bytes.fl {l : List Int} (h : Bytes l) (b : Bool) : Bytes (l.map (fl b)) := by
  intro x hx
  obtain ⟨y, hy, rfl⟩ := List.mem_map.mp hx
  exact fl_byte (h y hy)
theorem Bytes.get {l : List Int} (h : Bytes l) (i : Nat) (hi : i < l.length) : 0 ≤ l[i] ∧ l[i] < 256 := h _ (List.getElem_mem hi)
theorem Bytes.tail {x : Int} {l : List Int} (h : Bytes (x :: l)) : Bytes l := fun y hy => h y (List.mem_cons_of_mem _ hy)
theorem Bytes.of {l : List Int} (h : ∀ x_ ∈ l, (Lit.int .u8 x_).wf = true) : Bytes l := by
  intro x hx
  have := h x hx
  simp [Lit.wf, IntKind.min, IntKind.max, IntKind.bits, IntKind.signed] at this
  omega
theorem valA_range : ∀ (ds : List Int) (a : Int), Bytes ds → 0 ≤ a → a * 256 ^ ds.length ≤ valA a ds ∧ valA a ds < (a + 1) * 256 ^ ds.length
  | [], a, _, h => by simp [valA]; omega
  | d :: ds, a, hd, h => by
    have h1 := hd d (by simp)
    have ih := valA_range ds (a * 256 + d) hd.tail (by omega)
    have p := p256 ds.length
    have e : valA a (d :: ds) = valA (a * 256 + d) ds := rfl
    rw [e, List.length_cons, p256s]
    generalize (256 : Int) ^ ds.length = P at *
    have h2 : a * (P * 256) = (a * 256) * P := by rw [Int.mul_comm P 256, Int.mul_assoc]
    have h3 : (a + 1) * (P * 256) = ((a + 1) * 256) * P := by rw [Int.mul_comm P 256, Int.mul_assoc]
    rw [h2, h3]
    have h4 : (a * 256) * P ≤ (a * 256 + d) * P := Int.mul_le_mul_of_nonneg_right (by omega) (by omega)
    have h5 : (a * 256 + d + 1) * P ≤ ((a + 1) * 256) * P := Int.mul_le_mul_of_nonneg_right (by omega) (by omega)
    omega
def fin (k : Nat) (b : Bool) (u : Int) : Int × Int × Int :=
  if u < 9223372036854775808 then (if kw (if b then -1 - u else u) = k then ((if b then -1 - u else u), 1 + (k : Int), 0) else (0, 0, 11)) else (0, 0, 11)
def par (k : Nat) (b : Bool) (t : List Int) : Int × Int × Int := if t.length < k then (0, 0, 10) else fin k b (valA 0 ((t.take k).map (fl b)))
def P : List Int → Int × Int × Int
  | [] => (0, 0, 10)
  | h :: t => if h > 216 then (0, 0, 11) else if h > 208 then par (h - 208).toNat false t else if h < 8 then par (8 - h).toNat true t else (h - 108, 1, 0)
theorem rd_get (l : List Int) (i : Nat) (h : i < l.length) : rd l (i : Int) = l[i] := by
  unfold rd
  rw [Int.toNat_natCast, List.getD_eq_getElem?_getD, List.getElem?_eq_getElem h]
  rfl
theorem int_loop (k : Nat) (b : Bool) (ds : List Int) (hb : Bytes ds) (hk : k ≤ 8) (hd : ds.length ≤ 8) : ∀ (d i : Nat) (acc : Int), i + d = ds.length → 0 ≤ acc → acc < 256 ^ i →
    Ev (fun q => codec_Int.l0 q (k : Int) (flipN b) acc ds (ds.length : Int) (i : Int)) (fin k b (valA acc ((ds.drop i).map (fl b))))
  | 0, i, acc, h, h0, h1 => by
    have e8 := p8
    have hi := p256_le (show i ≤ 8 by omega)
    rw [List.drop_eq_nil_of_le (by omega)]
    have ef : valA acc (List.map (fl b) ([] : List Int)) = acc := rfl
    rw [ef]
    unfold fin
    by_cases c : acc < 9223372036854775808
    · rw [if_pos c]
      refine Ev.step (f := fun q => (codec_Width.f q (if b then -1 - acc else acc)).bind fun t => if t = 1 + (k : Int) then some ((if b then -1 - acc else acc), 1 + (k : Int), 0) else some (0, 0, 11)) (fun q => ?_) ?_
      · simp only [codec_Int.l0]
        rw [if_neg (by omega), wr1 (x := acc) (by omega) (by omega), wr1 (x := 1 + (k : Int)) (by omega) (by omega), cpl acc (by omega) (by omega)]
        cases b
        · rw [if_pos (show flipN false = 0 from rfl), if_pos (by omega)]; rfl
        · rw [if_neg (show ¬ flipN true = 0 by decide), if_pos (by omega)]; rfl
      · refine Ev.bind (width_ev (by cases b <;> simp [i64] <;> omega)) ?_
        by_cases e : kw (if b then -1 - acc else acc) = k
        · rw [if_pos e, if_pos (by omega)]
          exact Ev.now _
        · rw [if_neg e, if_neg (by omega)]
          exact Ev.now _
    · rw [if_neg c]
      refine Ev.step (f := fun q => some (0, 0, 11)) (fun q => ?_) (Ev.now _)
      simp only [codec_Int.l0]
      rw [if_neg (by omega)]
      cases b
      · rw [if_pos (show flipN false = 0 from rfl), if_neg (by omega)]
      · rw [if_neg (show ¬ flipN true = 0 by decide), if_neg (by omega)]
  | d + 1, i, acc, h, h0, h1 => by
    have hi : i < ds.length := by omega
    have hg := hb.get i hi
    have hf := fl_byte (b := b) hg
    have hp := p256_le (show i ≤ 7 by omega)
    have e7 : (256 : Int) ^ 7 = 72057594037927936 := by decide
    have hs := p256s i
    have ih := int_loop k b ds hb hk hd d (i + 1) (acc * 256 + fl b ds[i]) (by omega) (by omega) (by omega)
    refine Ev.step (f := fun q => codec_Int.l0 q (k : Int) (flipN b) (acc * 256 + fl b ds[i]) ds (ds.length : Int) ((i + 1 : Nat) : Int)) (fun q => ?_) ?_
    · simp only [codec_Int.l0]
      rw [if_pos (by omega), if_pos (by omega), if_pos (by omega), rd_get ds i hi, xfl b hg, or8 acc _ h0 (by omega) hf.1 hf.2, wr1 (by omega) (by omega)]
      rfl
    · rw [List.drop_eq_getElem_cons hi]
      exact ih
theorem int_j0 (l : List Int) (hl : Bytes l) (hn : l.length ≤ 9223372036854775000) (h : Int) (t : List Int) (e : l = h :: t) (k : Nat) (hk1 : 1 ≤ k) (hk : k ≤ 8) (b : Bool) : Ev (fun q => codec_Int.j0 q l (k : Int) (flipN b)) (par k b t) := by
  subst e
  unfold par
  by_cases c : t.length < k
  · rw [if_pos c]
    refine Ev.step (f := fun _ => some (0, 0, 10)) (fun q => ?_) (Ev.now _)
    simp only [codec_Int.j0]
    rw [if_pos (by simp <;> omega)]
  · rw [if_neg c]
    have hlen : (t.take k).length = k := by simp <;> omega
    have lp := int_loop k b (t.take k) (hl.tail.take k) hk (by omega) k 0 0 (by omega) (by omega) (by decide)
    rw [List.drop_zero] at lp
    refine Ev.step (f := fun q => codec_Int.l0 q (k : Int) (flipN b) 0 (t.take k) ((t.take k).length : Int) ((0 : Nat) : Int)) (fun q => ?_) lp
    simp only [codec_Int.j0]
    rw [wr1 (by omega) (by omega)]
    rw [if_neg (by simp <;> omega), if_pos (by omega), if_pos (by simp <;> omega)]
    rw [show (1 + (k : Int)).toNat = k + 1 by omega, List.take_succ_cons, List.drop_succ_cons, List.drop_zero]
    rfl
theorem int_ev (l : List Int) (hl : Bytes l) (hn : l.length ≤ 9223372036854775000) : Ev (fun q => codec_Int.f q l) (P l) := by
  unfold codec_Int.f
  cases l with
  | nil => exact Ev.now _
  | cons h t =>
    have hh := hl h (by simp)
    have er : rd (h :: t) 0 = h := rfl
    rw [er, wr1 (x := h) (by omega) (by omega)]
    simp only [P]
    by_cases c1 : h > 216
    · rw [if_pos c1]
      refine Ev.congr (f := fun _ => some (0, 0, 11)) (fun q => ?_) (Ev.now _)
      rw [if_neg (by simp <;> omega), if_pos (by simp <;> omega), if_pos c1]
    · rw [if_neg c1]
      by_cases c2 : h > 208
      · rw [if_pos c2]
        refine Ev.congr (fun q => ?_) (int_j0 (h :: t) hl hn h t rfl (h - 208).toNat (by omega) (by omega) false)
        rw [if_neg (by simp <;> omega), if_pos (by simp <;> omega), if_neg c1, if_pos c2, wr1 (by omega) (by omega), show ((h - 208).toNat : Int) = h - 208 by omega]
        rfl
      · rw [if_neg c2]
        by_cases c3 : h < 8
        · rw [if_pos c3]
          refine Ev.congr (fun q => ?_) (int_j0 (h :: t) hl hn h t rfl (8 - h).toNat (by omega) (by omega) true)
          rw [if_neg (by simp <;> omega), if_pos (by simp <;> omega), if_neg c1, if_neg c2, if_pos c3, wr1 (by omega) (by omega), show ((8 - h).toNat : Int) = 8 - h by omega]
          rfl
        · rw [if_neg c3]
          refine Ev.congr (f := fun _ => some (h - 108, 1, 0)) (fun q => ?_) (Ev.now _)
          rw [if_neg (by simp <;> omega), if_pos (by simp <;> omega), if_neg c1, if_neg c2, if_neg c3, wr1 (by omega) (by omega)]

def fin2 (k : Nat) (b : Bool) (u : Int) : Int × Int × Int :=
  if u > 9223372036854775807 then (0, 0, 11) else if -100 ≤ (if b then -1 - u else u) ∧ (if b then -1 - u else u) ≤ 100 then (0, 0, 11) else ((if b then -1 - u else u), 1 + (k : Int), 0)
theorem par_loop (l : List Int) (hl : Bytes l) (h : Int) (b : Bool) (hb : (h < 8) = (b = true)) (k : Nat) (hk : k ≤ 8) (hkl : k + 1 ≤ l.length) : ∀ (d i : Nat) (acc : Int), 2 ≤ i → i + d = k + 1 → 0 ≤ acc → acc < 256 ^ (i - 1) →
    Ev (fun q => cressetref01_ParseInt.l0 q l h (k : Int) acc (i : Int)) (fin2 k b (valA acc (((l.take (k + 1)).drop i).map (fl b))))
  | 0, i, acc, h2, e, h0, h1 => by
    have e8 := p8
    have hi := p256_le (show i - 1 ≤ 8 by omega)
    rw [List.drop_eq_nil_of_le (by simp <;> omega)]
    have ef : valA acc (List.map (fl b) ([] : List Int)) = acc := rfl
    rw [ef]
    unfold fin2
    refine Ev.step (f := fun _ => some (if acc > 9223372036854775807 then (0, 0, 11) else if -100 ≤ (if b then -1 - acc else acc) ∧ (if b then -1 - acc else acc) ≤ 100 then (0, 0, 11) else ((if b then -1 - acc else acc), 1 + (k : Int), 0))) (fun q => ?_) (Ev.now _)
    simp only [cressetref01_ParseInt.l0]
    rw [if_neg (by omega)]
    by_cases c : acc > 9223372036854775807
    · rw [if_pos c, if_pos c]
    · rw [if_neg c, if_neg c, wr1 (x := acc) (by omega) (by omega), wr1 (x := -1 - acc) (by omega) (by omega), wr1 (x := 1 + (k : Int)) (by omega) (by omega)]
      cases b
      · rw [if_neg (by rw [hb]; decide)]
        simp only [Bool.false_eq_true, if_false]
        by_cases c1 : acc ≥ -100
        · by_cases c2 : acc ≤ 100
          · rw [if_pos c1, if_pos c2, if_pos ⟨c1, c2⟩]
          · rw [if_pos c1, if_neg c2, if_neg (fun h => c2 h.2)]
        · rw [if_neg c1, if_neg (fun h => c1 h.1)]
      · rw [if_pos (by rw [hb])]
        simp only [if_true]
        by_cases c1 : -1 - acc ≥ -100
        · by_cases c2 : -1 - acc ≤ 100
          · rw [if_pos c1, if_pos c2, if_pos ⟨c1, c2⟩]
          · rw [if_pos c1, if_neg c2, if_neg (fun h => c2 h.2)]
        · rw [if_neg c1, if_neg (fun h => c1 h.1)]
  | d + 1, i, acc, h2, e, h0, h1 => by
    have hi : i < l.length := by omega
    have hg := hl.get i hi
    have hf := fl_byte (b := b) hg
    have hp := p256_le (show i - 1 ≤ 7 by omega)
    have e7 : (256 : Int) ^ 7 = 72057594037927936 := by decide
    have hs := p256s (i - 1)
    rw [show i - 1 + 1 = i by omega] at hs
    have ih := par_loop l hl h b hb k hk hkl d (i + 1) (acc * 256 + fl b l[i]) (by omega) (by omega) (by omega) (by rw [show i + 1 - 1 = i by omega]; omega)
    refine Ev.step (f := fun q => cressetref01_ParseInt.l0 q l h (k : Int) (acc * 256 + fl b l[i]) ((i + 1 : Nat) : Int)) (fun q => ?_) ?_
    · simp only [cressetref01_ParseInt.l0]
      rw [if_pos (by omega), if_pos (by omega), if_pos (by omega), rd_get l i hi, wr1 (x := (i : Int) + 1) (by omega) (by omega)]
      cases b
      · have e1 : fl false l[i] = l[i] := rfl
        rw [e1] at *
        rw [if_neg (by rw [hb]; decide), if_neg (by omega), wu, wu, wu, show (acc * 256 % 18446744073709551616 + l[i] % 18446744073709551616) % 18446744073709551616 = acc * 256 + l[i] by omega]
        rfl
      · have e1 : fl true l[i] = 255 - l[i] := rfl
        rw [e1] at *
        rw [if_pos (by rw [hb]), if_neg (by omega), wu, wu, show (acc * 256 % 18446744073709551616 + (255 - l[i]) % 256) % 18446744073709551616 = acc * 256 + (255 - l[i]) by omega]
        rfl
    · rw [List.drop_eq_getElem_cons (show i < (l.take (k + 1)).length by simp <;> omega), List.getElem_take]
      exact ih
theorem fin_eq {k : Nat} (hk : k ≤ 8) (b : Bool) {d : Int} {ds : List Int} (hd : Bytes (d :: ds)) (hl : ds.length + 1 = k) : fin k b (valA 0 (d :: ds)) = if d = 0 then (0, 0, 11) else fin2 k b (valA 0 (d :: ds)) := by
  have h1 := hd d (by simp)
  have e : valA 0 (d :: ds) = valA d ds := by simp [valA]
  rw [e]
  have hr := valA_range ds d hd.tail h1.1
  have p := p256 ds.length
  have hs := p256s ds.length
  rw [hl] at hs
  have hk1 : k - 1 = ds.length := by omega
  have hlo : 0 ≤ valA d ds := Int.le_trans (Int.mul_nonneg h1.1 (by omega)) hr.1
  unfold fin fin2
  generalize hu : valA d ds = u at *
  by_cases c : u < 9223372036854775808
  · rw [if_pos c, if_neg (show ¬ u > 9223372036854775807 by omega)]
    have hn : i64 (if b then -1 - u else u) := by cases b <;> simp [i64] <;> omega
    have hm : mag (if b then -1 - u else u) = u := by cases b <;> simp [mag] <;> omega
    generalize (if b then -1 - u else u) = n at *
    by_cases hz : kw n = 0
    · have := kw_small hn hz
      rw [if_neg (show ¬ kw n = k by omega), if_pos (show -100 ≤ n ∧ n ≤ 100 from this)]
      split <;> rfl
    · have hw := kw_mag hn hz
      rw [hm] at hw
      rw [if_neg (show ¬ (-100 ≤ n ∧ n ≤ 100) by omega)]
      by_cases d0 : d = 0
      · rw [if_pos d0, if_neg ?_]
        intro hc
        rw [hc] at hw
        obtain ⟨_, _, _, h4⟩ := hw.1
        rw [hk1] at h4
        subst d0
        rcases h4 with h4 | h4
        · have e0 : ds.length = 0 := by omega
          rw [e0] at hr
          simp at hr
          have : n = 0 ∨ n = -1 := by unfold mag at hm; split at hm <;> omega
          omega
        · rw [show ((0 : Int) + 1) * 256 ^ ds.length = 256 ^ ds.length by rw [Int.zero_add, Int.one_mul]] at hr
          omega
      · rw [if_neg d0, if_pos ?_]
        refine hw.1.uniq ⟨by omega, hlo, ?_, .inr ?_⟩
        · have h5 : (d + 1) * 256 ^ ds.length ≤ 256 * 256 ^ ds.length := Int.mul_le_mul_of_nonneg_right (by omega) (by omega)
          rw [Int.mul_comm] at hs
          omega
        · rw [hk1]
          have h5 : 1 * 256 ^ ds.length ≤ d * 256 ^ ds.length := Int.mul_le_mul_of_nonneg_right (by omega) (by omega)
          omega
  · rw [if_neg c, if_pos (show u > 9223372036854775807 by omega)]
    split <;> rfl
theorem par_ref (l : List Int) (hl : Bytes l) (hn : l.length ≤ 9223372036854775000) (h : Int) (t : List Int) (e : l = h :: t) (k : Nat) (hk1 : 1 ≤ k) (hk : k ≤ 8) (b : Bool) (hb : (h < 8) = (b = true)) : Ev (fun q => cressetref01_ParseInt.j1 q l h (k : Int)) (par k b t) := by
  subst e
  unfold par
  by_cases c : t.length < k
  · rw [if_pos c]
    refine Ev.step (f := fun _ => some (0, 0, 10)) (fun q => ?_) (Ev.now _)
    simp only [cressetref01_ParseInt.j1]
    have hw : wrap64 (((h :: t).length : Int) - 1) = t.length := by rw [wr1 (by omega) (by omega)]; simp
    rw [if_pos (show (k : Int) > wrap64 (((h :: t).length : Int) - 1) by rw [hw]; omega)]
  · rw [if_neg c]
    obtain ⟨d, ds, rfl⟩ : ∃ d ds, t = d :: ds := by
      cases t with
      | nil => simp at c; omega
      | cons d ds => exact ⟨d, ds, rfl⟩
    obtain ⟨m, rfl⟩ : ∃ m, k = m + 1 := ⟨k - 1, by omega⟩
    have hd := hl d (by simp)
    have hf := fl_byte (b := b) hd
    rw [List.take_succ_cons, List.map_cons, fin_eq hk b (by
      have := (hl.tail.take (m + 1)).fl b
      rwa [List.take_succ_cons, List.map_cons] at this) (by simp at c ⊢; omega)]
    refine Ev.step (f := fun q => cressetref01_ParseInt.l0 q (h :: d :: ds) h ((m + 1 : Nat) : Int) 0 1) (fun q => ?_) ?_
    · simp only [cressetref01_ParseInt.j1]
      have hw : wrap64 (((h :: d :: ds).length : Int) - 1) = (d :: ds).length := by rw [wr1 (by omega) (by omega)]; simp
      rw [if_neg (show ¬ ((m + 1 : Nat) : Int) > wrap64 (((h :: d :: ds).length : Int) - 1) by rw [hw]; omega)]
    · have er : rd (h :: d :: ds) 1 = d := rfl
      by_cases z : fl b d = 0
      · rw [if_pos z]
        refine Ev.step (f := fun q => some (0, 0, 11)) (fun q => ?_) (Ev.now _)
        simp only [cressetref01_ParseInt.l0]
        rw [if_pos (by omega), if_pos (by omega), if_pos (by simp <;> omega), er]
        cases b
        · have z : d = 0 := z
          rw [if_neg (show ¬ h < 8 by rw [hb]; decide), if_pos (show True from trivial), if_pos z]
        · have z : 255 - d = 0 := z
          rw [if_pos (show h < 8 by rw [hb]), if_pos (show True from trivial), if_pos (by omega)]
      · rw [if_neg z]
        have lp := par_loop (h :: d :: ds) hl h b hb (m + 1) hk (by simp at c ⊢; omega) m 2 (fl b d) (by omega) (by omega) hf.1 (by simpa using hf.2)
        rw [show (h :: d :: ds).take (m + 1 + 1) = h :: d :: ds.take m by simp] at lp
        have ev : valA 0 (fl b d :: List.map (fl b) (ds.take m)) = valA (fl b d) (List.map (fl b) (ds.take m)) := by simp [valA]
        rw [ev]
        refine Ev.step (f := fun q => cressetref01_ParseInt.l0 q (h :: d :: ds) h ((m + 1 : Nat) : Int) (fl b d) ((2 : Nat) : Int)) (fun q => ?_) (by simpa using lp)
        simp only [cressetref01_ParseInt.l0]
        rw [if_pos (by omega), if_pos (by omega), if_pos (by simp <;> omega), er, wr1 (x := (1 : Int) + 1) (by omega) (by omega)]
        cases b
        · have z : ¬ d = 0 := z
          have e1 : fl false d = d := rfl
          rw [if_neg (show ¬ h < 8 by rw [hb]; decide), if_pos (show True from trivial), if_neg z, wu, wu, wu, e1, show ((0 : Int) * 256 % 18446744073709551616 + d % 18446744073709551616) % 18446744073709551616 = d by omega]
          rfl
        · have z : ¬ 255 - d = 0 := z
          have e1 : fl true d = 255 - d := rfl
          rw [if_pos (show h < 8 by rw [hb]), if_pos (show True from trivial), if_neg (by omega), wu, wu, e1, show ((0 : Int) * 256 % 18446744073709551616 + (255 - d) % 256) % 18446744073709551616 = 255 - d by omega]
          rfl
theorem parse_ev (l : List Int) (hl : Bytes l) (hn : l.length ≤ 9223372036854775000) : Ev (fun q => cressetref01_ParseInt.f q l) (P l) := by
  unfold cressetref01_ParseInt.f
  cases l with
  | nil => exact Ev.now _
  | cons h t =>
    have hh := hl h (by simp)
    have er : rd (h :: t) 0 = h := rfl
    rw [er, wr1 (x := h) (by omega) (by omega)]
    simp only [P]
    by_cases c1 : h > 216
    · rw [if_pos c1]
      refine Ev.congr (f := fun _ => some (0, 0, 11)) (fun q => ?_) (Ev.now _)
      rw [if_neg (by simp <;> omega), if_pos (by simp <;> omega), if_pos c1]
    · rw [if_neg c1]
      by_cases c2 : h > 208
      · rw [if_pos c2]
        have hp := par_ref (h :: t) hl hn h t rfl (h - 208).toNat (by omega) (by omega) false (by simp <;> omega)
        refine Ev.congr (f := fun q => cressetref01_ParseInt.j0 q (h :: t) h false) (fun q => ?_) ?_
        · rw [if_neg (by simp <;> omega), if_pos (by simp <;> omega), if_neg c1, if_pos (by omega), decide_eq_false (by omega)]
        · refine Ev.step (fun q => ?_) hp
          simp only [cressetref01_ParseInt.j0]
          rw [if_neg (by decide), if_neg (by omega), wr1 (by omega) (by omega), show ((h - 208).toNat : Int) = h - 208 by omega]
      · rw [if_neg c2]
        by_cases c3 : h < 8
        · rw [if_pos c3]
          have hp := par_ref (h :: t) hl hn h t rfl (8 - h).toNat (by omega) (by omega) true (by simp <;> omega)
          refine Ev.congr (f := fun q => cressetref01_ParseInt.j0 q (h :: t) h false) (fun q => ?_) ?_
          · rw [if_neg (by simp <;> omega), if_pos (by simp <;> omega), if_neg c1, if_neg (by omega)]
          · refine Ev.step (fun q => ?_) hp
            simp only [cressetref01_ParseInt.j0]
            rw [if_neg (by decide), if_pos c3, wr1 (by omega) (by omega), show ((8 - h).toNat : Int) = 8 - h by omega]
        · rw [if_neg c3]
          refine Ev.congr (f := fun q => cressetref01_ParseInt.j0 q (h :: t) h true) (fun q => ?_) ?_
          · rw [if_neg (by simp <;> omega), if_pos (by simp <;> omega), if_neg c1, if_pos (by omega), decide_eq_true (by omega)]
          · refine Ev.step (f := fun _ => some (h - 108, 1, 0)) (fun q => ?_) (Ev.now _)
            simp only [cressetref01_ParseInt.j0]
            rw [if_pos trivial, wr1 (by omega) (by omega)]

theorem digs_more (u : Int) : ∀ (j : Nat) (xs : List Int), xs ≠ [] → j ≤ 8 → xs.length + j ≤ 1000 → Ev (fun q => cressetref01_digits.l0 q u xs ((j : Int) - 1)) (xs ++ dig j u)
  | 0, xs, _, _, _ => by
    refine Ev.step (f := fun _ => some xs) (fun q => ?_) (by simpa [dig] using Ev.now _)
    simp only [cressetref01_digits.l0]
    rw [if_neg (by omega)]
  | j + 1, xs, hx, hj, hn => by
    have ih := digs_more u j (xs ++ [u / 256 ^ j % 256]) (by simp) (by omega) (by simp <;> omega)
    refine Ev.step (f := fun q => cressetref01_digits.l0 q u (xs ++ [u / 256 ^ j % 256]) ((j : Int) - 1)) (fun q => ?_) (by simpa [dig] using ih)
    have hp : 0 < xs.length := List.length_pos_iff.mpr hx
    simp only [cressetref01_digits.l0]
    rw [show ((j + 1 : Nat) : Int) - 1 = (j : Int) by omega, wr1 (x := 8 * (j : Int)) (by omega) (by omega), wr1 (x := (j : Int) - 1) (by omega) (by omega), shr8 rfl u j (by omega)]
    rw [if_pos (by omega), if_pos (by omega)]
    by_cases c : u / 256 ^ j % 256 = 0
    · rw [if_pos c, if_pos (by omega), if_pos (by omega)]
    · rw [if_neg c, if_pos (by omega)]
theorem digs_first (j : Nat) : ∀ (u : Int), j ≤ 7 → 0 ≤ u → u < 256 ^ (j + 1) → Ev (fun q => cressetref01_digits.l0 q u [] (j : Int)) (dig (bwf j u) u) := by
  induction j with
  | zero =>
    intro u _ h0 h1
    have ih := digs_more u 0 [u / 256 ^ 0 % 256] (by simp) (by omega) (by simp)
    refine Ev.step (f := fun q => cressetref01_digits.l0 q u [u / 256 ^ 0 % 256] (((0 : Nat) : Int) - 1)) (fun q => ?_) (by simpa [dig, bwf] using ih)
    simp only [cressetref01_digits.l0]
    rw [wr1 (x := 8 * ((0 : Nat) : Int)) (by omega) (by omega), wr1 (x := ((0 : Nat) : Int) - 1) (by omega) (by omega), shr8 rfl u 0 (by omega)]
    rw [if_pos (by omega), if_pos (by omega)]
    by_cases c : u / 256 ^ 0 % 256 = 0
    · rw [if_pos c, if_neg (by simp), if_pos (by omega), if_pos (by simp)]; rfl
    · rw [if_neg c, if_pos (by simp)]; rfl
  | succ j IH =>
    intro u hj h0 h1
    have p := p256 (j + 1)
    have hs := p256s (j + 1)
    have hq : u / 256 ^ (j + 1) < 256 := Int.ediv_lt_of_lt_mul p (by rw [hs, Int.mul_comm] at h1; exact h1)
    have hq0 : 0 ≤ u / 256 ^ (j + 1) := Int.ediv_nonneg h0 (by omega)
    have hz : (u / 256 ^ (j + 1) % 256 = 0) ↔ u < 256 ^ (j + 1) := by
      rw [Int.emod_eq_of_lt hq0 hq]
      constructor
      · intro h
        have h3 := Int.emod_def u (256 ^ (j + 1))
        rw [h, Int.mul_zero, Int.sub_zero] at h3
        have := Int.emod_lt_of_pos u p
        omega
      · intro h; exact Int.ediv_eq_zero_of_lt h0 h
    unfold bwf
    by_cases c : u < 256 ^ (j + 1)
    · rw [if_pos c]
      refine Ev.step (f := fun q => cressetref01_digits.l0 q u [] (j : Int)) (fun q => ?_) (IH u (by omega) h0 c)
      simp only [cressetref01_digits.l0]
      rw [wr1 (x := 8 * ((j + 1 : Nat) : Int)) (by omega) (by omega), wr1 (x := ((j + 1 : Nat) : Int) - 1) (by omega) (by omega), shr8 rfl u (j + 1) (by omega)]
      rw [if_pos (by omega), if_pos (by omega), if_pos (hz.mpr c), if_neg (by simp), if_neg (by omega), show ((j + 1 : Nat) : Int) - 1 = (j : Int) by omega]
    · rw [if_neg c]
      have ih := digs_more u (j + 1) [u / 256 ^ (j + 1) % 256] (by simp) (by omega) (by simp <;> omega)
      refine Ev.step (f := fun q => cressetref01_digits.l0 q u [u / 256 ^ (j + 1) % 256] (((j + 1 : Nat) : Int) - 1)) (fun q => ?_) (by simpa [dig] using ih)
      simp only [cressetref01_digits.l0]
      rw [wr1 (x := 8 * ((j + 1 : Nat) : Int)) (by omega) (by omega), wr1 (x := ((j + 1 : Nat) : Int) - 1) (by omega) (by omega), shr8 rfl u (j + 1) (by omega)]
      rw [if_pos (by omega), if_pos (by omega), if_neg (fun h => c (hz.mp h)), if_pos (by simp)]
      rfl
theorem digits_ev {u : Int} (h0 : 0 ≤ u) (h : u < 18446744073709551616) : Ev (fun q => cressetref01_digits.f q u) (dig (bw u) u) := by
  have h8 := p8
  have e : bw u = bwf 7 u := by
    show bwf (7 + 1) u = bwf 7 u
    rw [bwf]
    exact if_pos (by rw [p8]; exact h)
  rw [e]
  exact digs_first 7 u (by omega) h0 (by rw [p8]; exact h)
theorem refint_loop (ds : List Int) (hb : Bytes ds) (hl : ds.length ≤ 100) : ∀ (d i : Nat) (acc : List Int), i + d = ds.length → acc.length + d ≤ 1000 → Ev (fun q => cressetref01_Int.l0 q ds acc (i : Int)) (acc ++ (ds.drop i).map (fl true))
  | 0, i, acc, h, ha => by
    rw [List.drop_eq_nil_of_le (by omega)]
    refine Ev.step (f := fun _ => some acc) (fun q => ?_) (by simpa using Ev.now _)
    simp only [cressetref01_Int.l0]
    rw [if_neg (by omega)]
  | d + 1, i, acc, h, ha => by
    have hi : i < ds.length := by omega
    have hg := hb.get i hi
    have ih := refint_loop ds hb hl d (i + 1) (acc ++ [fl true ds[i]]) (by omega) (by simp <;> omega)
    refine Ev.step (f := fun q => cressetref01_Int.l0 q ds (acc ++ [fl true ds[i]]) ((i + 1 : Nat) : Int)) (fun q => ?_) ?_
    · simp only [cressetref01_Int.l0]
      rw [if_pos (by omega), if_pos (by omega), if_pos (by omega), rd_get ds i hi, wr1 (by omega) (by omega), show (255 - ds[i]) % 256 = 255 - ds[i] by omega]
      rfl
    · rw [List.drop_eq_getElem_cons hi, List.map_cons]
      rw [List.append_assoc] at ih
      exact ih
theorem refI_ev {n : Int} (h : i64 n) : Ev (fun q => cressetref01_Int.f q n) (I n) := by
  have hk := kw_le h
  have hh := h
  obtain ⟨h0, h1⟩ := hh
  unfold I
  by_cases c : kw n = 0
  · have hs := kw_small h c
    rw [if_pos c]
    refine Ev.congr (f := fun q => cressetref01_Int.j0 q n true) (fun q => ?_) ?_
    · unfold cressetref01_Int.f
      rw [if_pos (by omega), decide_eq_true (by omega)]
    · refine Ev.step (f := fun _ => some [n + 108]) (fun q => ?_) (Ev.now _)
      simp only [cressetref01_Int.j0]
      rw [if_pos trivial, wr1 (by omega) (by omega), show (n + 108) % 256 = n + 108 by omega]
  · have hm := kw_mag h c
    rw [if_neg c]
    refine Ev.congr (f := fun q => cressetref01_Int.j0 q n false) (fun q => ?_) ?_
    · unfold cressetref01_Int.f
      by_cases d : n ≥ -100
      · rw [if_pos d, decide_eq_false (by omega)]
      · rw [if_neg d]
    · by_cases d : n < 0
      · have e : mag n = -1 - n := if_pos d
        have e2 : ng n = true := decide_eq_true d
        have ek : kw n = bw (-1 - n) := by unfold kw; rw [if_neg (by omega), if_pos (by omega)]
        rw [if_pos d, e, e2]
        have lp := refint_loop (dig (kw n) (-1 - n)) (dig_byte _ _) (by rw [dig_length]; omega) (kw n) 0 [8 - (kw n : Int)] (by rw [dig_length]; omega) (by simp; omega)
        rw [List.drop_zero] at lp
        have dg := digits_ev (u := -1 - n) (by omega) (by omega)
        rw [← ek] at dg
        refine Ev.step (f := fun q => (cressetref01_digits.f q (-1 - n)).bind fun t => cressetref01_Int.l0 q t ([(wrap64 (8 - (t.length : Int))) % 256]) 0) (fun q => ?_) (Ev.bind dg ?_)
        · simp only [cressetref01_Int.j0]
          rw [if_neg (by decide), if_neg (by omega), wr1 (x := n + 1) (by omega) (by omega), wr1 (x := -(n + 1)) (by omega) (by omega), wu, show -(n + 1) % 18446744073709551616 = -1 - n by omega]
        · rw [dig_length, wr1 (by omega) (by omega), show (8 - (kw n : Int)) % 256 = 8 - (kw n : Int) by omega]
          exact lp
      · have e : mag n = n := if_neg d
        have e2 : ng n = false := decide_eq_false d
        have ek : kw n = bw n := by unfold kw; rw [if_pos (by omega)]
        rw [if_neg d, e, e2]
        have dg := digits_ev (u := n) (by omega) (by omega)
        rw [← ek] at dg
        have ef : List.map (fl false) (dig (kw n) n) = dig (kw n) n := List.map_id' _
        rw [ef]
        refine Ev.step (f := fun q => (cressetref01_digits.f q n).bind fun t => (some ([(wrap64 (208 + (t.length : Int))) % 256])).bind fun y => if y.length + t.length < 140737488355328 then some (y ++ t) else none) (fun q => ?_) (Ev.bind dg ?_)
        · simp only [cressetref01_Int.j0]
          rw [if_neg (by decide), if_pos (by omega), wu, show n % 18446744073709551616 = n by omega]
        · refine Ev.bind (Ev.now _) ?_
          rw [dig_length, wr1 (by omega) (by omega), show (208 + (kw n : Int)) % 256 = 208 + (kw n : Int) by omega, if_pos (by simp; omega)]
          exact Ev.now _
theorem eq_ev (l : List Int) : Ev (fun _ => bytes_Equal.f l l) true := by
  unfold bytes_Equal.f
  rw [beq_self_eq_true]
  exact Ev.now _
theorem i64_of {n : Int} (h : (Lit.int .i64 n).wf = true) : i64 n := by
  simp [Lit.wf, IntKind.min, IntKind.max, IntKind.bits, IntKind.signed] at h
  unfold i64
  omega

theorem valA_dig : ∀ (k : Nat) (a u : Int), valA a (dig k u) = (a - u / 256 ^ k) * 256 ^ k + u
  | 0, a, u => by simp [dig, valA]
  | k + 1, a, u => by
    have e : valA a (dig (k + 1) u) = valA (a * 256 + u / 256 ^ k % 256) (dig k u) := rfl
    have p := p256 k
    rw [e, valA_dig k, p256s]
    have hd : u / (256 ^ k * 256) = u / 256 ^ k / 256 := by rw [Int.ediv_ediv_of_nonneg (Int.le_of_lt p)]
    rw [hd]
    generalize hq : u / 256 ^ k = q
    generalize (256 : Int) ^ k = P at *
    have h1 : a * 256 + q % 256 - q = (a - q / 256) * 256 := by omega
    rw [h1, Int.mul_assoc, Int.mul_comm 256 P]
theorem val_dig {k : Nat} {u : Int} (h0 : 0 ≤ u) (h : u < 256 ^ k) : valA 0 (dig k u) = u := by
  rw [valA_dig, Int.ediv_eq_zero_of_lt h0 h]
  simp
theorem dig_val : ∀ (ds : List Int) (a : Int), Bytes ds → 0 ≤ a → dig ds.length (valA a ds) = ds
  | [], _, _, _ => rfl
  | d :: t, a, hb, ha => by
    have hd := hb d (by simp)
    have e : valA a (d :: t) = valA (a * 256 + d) t := rfl
    have hr := valA_range t (a * 256 + d) hb.tail (by omega)
    have p := p256 t.length
    rw [e, List.length_cons]
    show (valA (a * 256 + d) t / 256 ^ t.length) % 256 :: dig t.length (valA (a * 256 + d) t) = d :: t
    rw [dig_val t _ hb.tail (by omega)]
    have h1 : valA (a * 256 + d) t / 256 ^ t.length = a * 256 + d := by
      have h2 := Int.le_ediv_of_mul_le p hr.1
      have h3 := Int.ediv_lt_of_lt_mul p hr.2
      omega
    rw [h1]
    congr 1
    omega
theorem map_fl_fl (b : Bool) (l : List Int) : (l.map (fl b)).map (fl b) = l := by
  rw [List.map_map]
  conv => rhs; rw [← List.map_id l]
  exact List.map_congr_left (fun x _ => fl_fl b x)
theorem I_bytes {n : Int} (h : i64 n) : Bytes (I n) := by
  have hk := kw_le h
  unfold I
  by_cases c : kw n = 0
  · have := kw_small h c
    rw [if_pos c]
    intro x hx
    simp at hx
    omega
  · rw [if_neg c]
    intro x hx
    rcases List.mem_cons.mp hx with rfl | hx
    · split <;> omega
    · exact Bytes.fl (dig_byte _ _) _ x hx
theorem mag_eq (n : Int) : (if ng n then -1 - mag n else mag n) = n := by
  unfold ng mag
  by_cases c : n < 0
  · rw [decide_eq_true c, if_pos c, if_pos rfl]; omega
  · rw [decide_eq_false c, if_neg c, if_neg (by decide)]
theorem P_I {n : Int} (h : i64 n) (rest : List Int) : P (I n ++ rest) = (n, 1 + (kw n : Int), 0) := by
  have hk := kw_le h
  unfold I
  by_cases c : kw n = 0
  · have := kw_small h c
    rw [if_pos c]
    simp only [P, List.singleton_append]
    rw [if_neg (by omega), if_neg (by omega), if_neg (by omega), c, show n + 108 - 108 = n by omega]
    rfl
  · have hm := kw_mag h c
    have hu : mag n < 9223372036854775808 := by obtain ⟨h0, h1⟩ := h; unfold mag; split <;> omega
    have key : par (kw n) (ng n) ((dig (kw n) (mag n)).map (fl (ng n)) ++ rest) = (n, 1 + (kw n : Int), 0) := by
      unfold par
      rw [if_neg (by simp [dig_length] <;> omega), List.take_left' (by simp [dig_length]), map_fl_fl, val_dig hm.1.2.1 hm.1.2.2.1]
      unfold fin
      rw [if_pos hu, mag_eq, if_pos rfl]
    rw [if_neg c]
    simp only [P, List.cons_append]
    by_cases d : n < 0
    · rw [if_pos d, if_neg (by omega), if_neg (by omega), if_pos (by omega), show (8 - (8 - (kw n : Int))).toNat = kw n by omega]
      rw [show ng n = true from decide_eq_true d] at key ⊢
      exact key
    · rw [if_neg d, if_neg (by omega), if_pos (by omega), show (208 + (kw n : Int) - 208).toNat = kw n by omega]
      rw [show ng n = false from decide_eq_false d] at key ⊢
      exact key
theorem par_ok {k : Nat} {b : Bool} {t : List Int} (hk1 : 1 ≤ k) (hk : k ≤ 8) (ht : Bytes t) {n s : Int} (h : par k b t = (n, s, 0)) : i64 n ∧ kw n = k ∧ s = 1 + (k : Int) ∧ k ≤ t.length ∧ ng n = b ∧ (dig k (mag n)).map (fl b) = t.take k := by
  unfold par at h
  by_cases c : t.length < k
  · rw [if_pos c] at h; simp at h
  · rw [if_neg c] at h
    have hlen : ((t.take k).map (fl b)).length = k := by simp <;> omega
    have hb : Bytes ((t.take k).map (fl b)) := (ht.take k).fl b
    have hr := valA_range _ 0 hb (Int.le_refl 0)
    have hv := dig_val _ 0 hb (Int.le_refl 0)
    rw [hlen] at hv
    rw [Int.zero_mul] at hr
    unfold fin at h
    generalize hu : valA 0 ((t.take k).map (fl b)) = u at *
    by_cases c1 : u < 9223372036854775808
    · rw [if_pos c1] at h
      by_cases c2 : kw (if b then -1 - u else u) = k
      · rw [if_pos c2] at h
        simp only [Prod.mk.injEq] at h
        obtain ⟨rfl, rfl, _⟩ := h
        have hn : i64 (if b then -1 - u else u) := by cases b <;> simp [i64] <;> omega
        have hm : mag (if b then -1 - u else u) = u := by cases b <;> simp [mag] <;> omega
        have hg : ng (if b then -1 - u else u) = b := by cases b <;> simp [ng] <;> omega
        refine ⟨hn, c2, rfl, by omega, hg, ?_⟩
        rw [hm, hv, map_fl_fl]
      · rw [if_neg c2] at h; simp at h
    · rw [if_neg c1] at h; simp at h
theorem P_ok {l : List Int} (hl : Bytes l) {n s : Int} (h : P l = (n, s, 0)) : i64 n ∧ s = 1 + (kw n : Int) ∧ 1 + kw n ≤ l.length ∧ I n = l.take (1 + kw n) := by
  cases l with
  | nil => simp [P] at h
  | cons a t =>
    have ha := hl a (by simp)
    simp only [P] at h
    by_cases c1 : a > 216
    · rw [if_pos c1] at h; simp at h
    · rw [if_neg c1] at h
      by_cases c2 : a > 208
      · rw [if_pos c2] at h
        obtain ⟨h1, h2, h3, h4, h5, h6⟩ := par_ok (by omega) (by omega) hl.tail h
        have hz : kw n ≠ 0 := by omega
        have hd : ¬ n < 0 := of_decide_eq_false h5
        refine ⟨h1, by omega, by simp; omega, ?_⟩
        unfold I
        rw [if_neg hz, if_neg hd, h5, h2, h6, Nat.add_comm 1, List.take_succ_cons]
        congr 1
        omega
      · rw [if_neg c2] at h
        by_cases c3 : a < 8
        · rw [if_pos c3] at h
          obtain ⟨h1, h2, h3, h4, h5, h6⟩ := par_ok (by omega) (by omega) hl.tail h
          have hz : kw n ≠ 0 := by omega
          have hd : n < 0 := of_decide_eq_true h5
          refine ⟨h1, by omega, by simp; omega, ?_⟩
          unfold I
          rw [if_neg hz, if_pos hd, h5, h2, h6, Nat.add_comm 1, List.take_succ_cons]
          congr 1
          omega
        · rw [if_neg c3] at h
          simp only [Prod.mk.injEq] at h
          obtain ⟨rfl, rfl, _⟩ := h
          have hk : kw (a - 108) = 0 := by unfold kw; rw [if_neg (by omega), if_neg (by omega)]
          refine ⟨⟨by omega, by omega⟩, by rw [hk]; rfl, by rw [hk]; simp, ?_⟩
          unfold I
          rw [if_pos hk, hk, show a - 108 + 108 = a by omega]
          rfl
theorem par_err {k : Nat} {b : Bool} {t : List Int} {n s e : Int} (h : par k b t = (n, s, e)) : e = 0 ∨ e = 10 ∨ e = 11 := by
  unfold par fin at h
  (repeat' split at h) <;> simp at h <;> omega
theorem P_err {l : List Int} {n s e : Int} (h : P l = (n, s, e)) : e = 0 ∨ e = 10 ∨ e = 11 := by
  cases l with
  | nil => simp [P] at h; omega
  | cons a t =>
    simp only [P] at h
    (repeat' split at h) <;> first | exact par_err h | (simp at h; omega)

theorem str_bytes (s : ByteArray) : strOfNums (bytesOf s) = s := by
  unfold strOfNums bytesOf
  rw [List.map_map]
  have : ((fun n : Int => UInt8.ofNat n.toNat) ∘ fun b : UInt8 => (b.toNat : Int)) = id := by
    funext b
    simp
  rw [this, List.map_id]
theorem bytes_str {l : List Int} (h : Bytes l) : bytesOf (strOfNums l) = l := by
  unfold strOfNums bytesOf
  simp only [List.map_map]
  conv => rhs; rw [← List.map_id l]
  refine List.map_congr_left (fun x hx => ?_)
  have := h x hx
  simp
  omega
theorem bytesOf_bytes (s : ByteArray) : Bytes (bytesOf s) := by
  intro x hx
  obtain ⟨b, _, rfl⟩ := List.mem_map.mp hx
  have := b.toNat_lt
  omega
def T (l : List Int) : ByteArray × Int × Int :=
  if (P l).2.2 = 0 then (if (P l).1 < 0 then (⟨#[]⟩, 0, 11) else if (P l).1 > (l.length : Int) - (P l).2.1 then (⟨#[]⟩, 0, 10) else (strOfNums ((l.take ((P l).2.1 + (P l).1).toNat).drop (P l).2.1.toNat), (P l).2.1 + (P l).1, 0)) else (⟨#[]⟩, 0, (P l).2.2)
theorem text_ev (l : List Int) (hl : Bytes l) (hn : l.length ≤ 9223372036854775000) : Ev (fun q => codec_Text.f q l) (T l) := by
  unfold codec_Text.f T
  refine Ev.bind (int_ev l hl hn) ?_
  generalize hP : P l = p
  obtain ⟨n, s, e⟩ := p
  simp only
  by_cases c : e = 0
  · subst c
    obtain ⟨⟨n0, n1⟩, hs, hle, _⟩ := P_ok hl hP
    simp only [eq_self, if_true]
    by_cases c1 : n < 0
    · simp only [if_pos c1]
      exact Ev.now _
    · simp only [if_neg c1]
      rw [wr1 (x := (l.length : Int) - s) (by omega) (by omega)]
      by_cases c2 : n > (l.length : Int) - s
      · simp only [if_pos c2]
        exact Ev.now _
      · simp only [if_neg c2]
        refine Ev.congr (f := fun _ => some _) (fun k => ?_) (Ev.now _)
        rw [wr1 (x := s + n) (by omega) (by omega), if_pos (by omega), if_pos (by omega), if_pos (by omega)]
  · simp only [if_neg c]
    exact Ev.now _
theorem puttext_ev (s : ByteArray) (xs : List Int) (hx : xs.length + s.size ≤ 140737488355200) : Ev (fun k => codec_PutText.f k xs s) (xs ++ I s.size ++ bytesOf s) := by
  have hs : i64 (s.size : Int) := ⟨by omega, by omega⟩
  have hk := kw_le hs
  unfold codec_PutText.f
  refine Ev.bind (put_ev hs xs (by omega)) ?_
  refine Ev.congr (f := fun _ => some _) (fun k => ?_) (Ev.now _)
  rw [if_pos]
  rw [List.length_append, I_length]
  omega

theorem putflag_ev (yes : Bool) (xs : List Int) (hx : xs.length ≤ 140737488355200) : Ev (fun k => codec_PutFlag.f k xs yes) (xs ++ I (if yes then 1 else 0)) := by
  unfold codec_PutFlag.f
  cases yes
  · refine Ev.congr (fun k => if_neg (by decide)) ?_
    exact Ev.bind (put_ev ⟨by omega, by omega⟩ xs hx) (Ev.now _)
  · refine Ev.congr (fun k => if_pos rfl) ?_
    exact Ev.bind (put_ev ⟨by omega, by omega⟩ xs hx) (Ev.now _)
def F (l : List Int) : Bool × Int × Int :=
  if (P l).2.2 = 0 then (if (P l).1 = 0 ∨ (P l).1 = 1 then ((P l).1 == 1, (P l).2.1, 0) else (false, 0, 11)) else (false, 0, (P l).2.2)
theorem flag_ev (l : List Int) (hl : Bytes l) (hn : l.length ≤ 9223372036854775000) : Ev (fun q => codec_Flag.f q l) (F l) := by
  unfold codec_Flag.f F
  refine Ev.bind (int_ev l hl hn) ?_
  generalize hP : P l = p
  obtain ⟨n, s, e⟩ := p
  simp only
  by_cases c : e = 0
  · subst c
    simp only [eq_self, if_true]
    by_cases c1 : n = 0
    · rw [if_pos (.inl c1)]
      refine Ev.congr (fun k => if_pos c1) ?_
      exact Ev.step (f := fun _ => some _) (fun k => by simp only [codec_Flag.j0]; rfl) (Ev.now _)
    · refine Ev.congr (fun k => if_neg c1) ?_
      by_cases c2 : n = 1
      · rw [if_pos (.inr c2)]
        subst c2
        exact Ev.step (f := fun _ => some _) (fun k => by simp only [codec_Flag.j0]; rfl) (Ev.now _)
      · rw [if_neg (by omega), bne_iff_ne.mpr c2]
        exact Ev.step (f := fun _ => some _) (fun k => by simp only [codec_Flag.j0]; rfl) (Ev.now _)
  · simp only [if_neg c]
    refine Ev.step (f := fun _ => some _) (fun k => ?_) (Ev.now _)
    simp only [codec_Flag.j0]
    rw [if_neg (by decide), if_neg c]

theorem T_I {m : Nat} (hm : i64 (m : Int)) (rest : List Int) (h : m ≤ rest.length) : T (I m ++ rest) = (strOfNums (rest.take m), 1 + (kw m : Int) + m, 0) := by
  unfold T
  rw [P_I hm]
  simp only [if_true]
  rw [if_neg (by omega), if_neg (by rw [List.length_append, I_length]; omega)]
  rw [show (1 + (kw m : Int) + m).toNat = 1 + kw m + m by omega, show (1 + (kw m : Int)).toNat = 1 + kw m by omega]
  congr 2
  rw [List.drop_take, show 1 + kw m + m - (1 + kw m) = m by omega, ← I_length, List.drop_left']
  rfl
theorem T_str (s : ByteArray) (hs : i64 (s.size : Int)) (rest : List Int) : T (I s.size ++ (bytesOf s ++ rest)) = (s, 1 + (kw s.size : Int) + s.size, 0) := by
  rw [T_I hs _ (by rw [List.length_append, bytesOf_length]; omega), List.take_left' (bytesOf_length s), str_bytes]
theorem F_I (b : Bool) (rest : List Int) : F (I (if b then 1 else 0) ++ rest) = (b, 1, 0) := by
  unfold F
  cases b
  · simp only [Bool.false_eq_true, if_false]
    rw [P_I ⟨by omega, by omega⟩]
    simp [kw]
  · simp only [if_true]
    rw [P_I ⟨by omega, by omega⟩]
    simp [kw]
end Go.Proofs.Ytkcdmoghnoodmaa.Cod

import Derived.Test.YtphdinelioendaaLibA
namespace Go.Proofs.Ytphdinelioendaa.Lib
open Go.RowKit Go.Proofs.Ytphdinelioendaa.B Go.Proofs.YtphdinelioendaaW.PrintWords Go.Proofs.YtphdinelioendaaW.PrintLast Go.Proofs.YtphdinelioendaaW.PrintMore
set_option linter.unusedVariables false
set_option linter.unusedSimpArgs false

/-! ### what bytes begin with -/
def valA (a : Int) (ds : List Int) : Int := ds.foldl (fun a d => a * 256 + d) a
def Bytes (l : List Int) : Prop := ∀ x ∈ l, 0 ≤ x ∧ x < 256
theorem Bytes.take {l : List Int} (h : Bytes l) (n : Nat) : Bytes (l.take n) := fun x hx => h x (List.mem_of_mem_take hx)
theorem Bytes.drop {l : List Int} (h : Bytes l) (n : Nat) : Bytes (l.drop n) := fun x hx => h x (List.mem_of_mem_drop hx)
theorem Bytes.fl {l : List Int} (h : Bytes l) (b : Bool) : Bytes (l.map (fl b)) := by
  intro x hx
  obtain ⟨y, hy, rfl⟩ := List.mem_map.mp hx
  exact fl_byte (h y hy)
theorem Bytes.get {l : List Int} (h : Bytes l) (i : Nat) (hi : i < l.length) : 0 ≤ l[i] ∧ l[i] < 256 := h _ (List.getElem_mem hi)
theorem Bytes.tail {x : Int} {l : List Int} (h : Bytes (x :: l)) : Bytes l := fun y hy => h y (List.mem_cons_of_mem _ hy)
theorem Bytes.of {l : List Int} (h : ∀ x_ ∈ l, (Lit.int .u8 x_).wf = true) : Bytes l := by
  intro x hx
  have := h x hx
  simp [Lit.wf, IntKind.min, IntKind.max, IntKind.bits, IntKind.signed] at this
  omega
theorem valA_range : ∀ (ds : List Int) (a : Int), Bytes ds → 0 ≤ a → a * 256 ^ ds.length ≤ valA a ds ∧ valA a ds < (a + 1) * 256 ^ ds.length
  | [], a, _, h => by simp [valA]; omega
  | d :: ds, a, hd, h => by
    have h1 := hd d (by simp)
    have ih := valA_range ds (a * 256 + d) hd.tail (by omega)
    have p := p256 ds.length
    have e : valA a (d :: ds) = valA (a * 256 + d) ds := rfl
    rw [e, List.length_cons, p256s]
    generalize (256 : Int) ^ ds.length = P at *
    have h2 : a * (P * 256) = (a * 256) * P := by rw [Int.mul_comm P 256, Int.mul_assoc]
    have h3 : (a + 1) * (P * 256) = ((a + 1) * 256) * P := by rw [Int.mul_comm P 256, Int.mul_assoc]
    rw [h2, h3]
    have h4 : (a * 256) * P ≤ (a * 256 + d) * P := Int.mul_le_mul_of_nonneg_right (by omega) (by omega)
    have h5 : (a * 256 + d + 1) * P ≤ ((a + 1) * 256) * P := Int.mul_le_mul_of_nonneg_right (by omega) (by omega)
    omega
def fin (k : Nat) (b : Bool) (u : Int) : Int × Int × Int :=
  if u < 9223372036854775808 then (if kw (if b then -1 - u else u) = k then ((if b then -1 - u else u), 1 + (k : Int), 0) else (0, 0, 11)) else (0, 0, 11)
def par (k : Nat) (b : Bool) (t : List Int) : Int × Int × Int := if t.length < k then (0, 0, 10) else fin k b (valA 0 ((t.take k).map (fl b)))
def P : List Int → Int × Int × Int
  | [] => (0, 0, 10)
  | h :: t => if h > 216 then (0, 0, 11) else if h > 208 then par (h - 208).toNat false t else if h < 8 then par (8 - h).toNat true t else (h - 108, 1, 0)
theorem flipN_z (b : Bool) : (flipN b = 0) = (b = false) := by cases b <;> simp [flipN]
theorem rd_get (l : List Int) (i : Nat) (h : i < l.length) : rd l (i : Int) = l[i] := by
  unfold rd
  rw [Int.toNat_natCast, List.getD_eq_getElem?_getD, List.getElem?_eq_getElem h]
  rfl
theorem int_loop (k : Nat) (b : Bool) (ds : List Int) (hb : Bytes ds) (hk : k ≤ 8) (hd : ds.length ≤ 8) : ∀ (d i : Nat) (acc : Int), i + d = ds.length → 0 ≤ acc → acc < 256 ^ i →
    Ev (fun q => codec_Int.l0 q (k : Int) (flipN b) acc ds (ds.length : Int) (i : Int)) (fin k b (valA acc ((ds.drop i).map (fl b))))
  | 0, i, acc, h, h0, h1 => by
    have e8 := p8
    have hi := p256_le (show i ≤ 8 by omega)
    rw [List.drop_eq_nil_of_le (by omega)]
    have ef : valA acc (List.map (fl b) ([] : List Int)) = acc := rfl
    rw [ef]
    unfold fin
    by_cases c : acc < 9223372036854775808
    · rw [if_pos c]
      refine Ev.step (f := fun q => (codec_Width.f q (if b then -1 - acc else acc)).bind fun t => if t = 1 + (k : Int) then some ((if b then -1 - acc else acc), 1 + (k : Int), 0) else some (0, 0, 11)) (fun q => ?_) ?_
      · simp only [codec_Int.l0]
        rw [if_neg (by omega), wr1 (x := acc) (by omega) (by omega), wr1 (x := 1 + (k : Int)) (by omega) (by omega), cpl acc (by omega) (by omega)]
        cases b
        · rw [if_pos (show flipN false = 0 from rfl), if_pos (by omega)]; rfl
        · rw [if_neg (show ¬ flipN true = 0 by decide), if_pos (by omega)]; rfl
      · refine Ev.bind (width_ev (by cases b <;> simp [i64] <;> omega)) ?_
        by_cases e : kw (if b then -1 - acc else acc) = k
        · rw [if_pos e, if_pos (by omega)]
          exact Ev.now _
        · rw [if_neg e, if_neg (by omega)]
          exact Ev.now _
    · rw [if_neg c]
      refine Ev.step (f := fun q => some (0, 0, 11)) (fun q => ?_) (Ev.now _)
      simp only [codec_Int.l0]
      rw [if_neg (by omega)]
      cases b
      · rw [if_pos (show flipN false = 0 from rfl), if_neg (by omega)]
      · rw [if_neg (show ¬ flipN true = 0 by decide), if_neg (by omega)]
  | d + 1, i, acc, h, h0, h1 => by
    have hi : i < ds.length := by omega
    have hg := hb.get i hi
    have hf := fl_byte (b := b) hg
    have hp := p256_le (show i ≤ 7 by omega)
    have e7 : (256 : Int) ^ 7 = 72057594037927936 := by decide
    have hs := p256s i
    have ih := int_loop k b ds hb hk hd d (i + 1) (acc * 256 + fl b ds[i]) (by omega) (by omega) (by omega)
    refine Ev.step (f := fun q => codec_Int.l0 q (k : Int) (flipN b) (acc * 256 + fl b ds[i]) ds (ds.length : Int) ((i + 1 : Nat) : Int)) (fun q => ?_) ?_
    · simp only [codec_Int.l0]
      rw [if_pos (by omega), if_pos (by omega), if_pos (by omega), rd_get ds i hi, xfl b hg, or8 acc _ h0 (by omega) hf.1 hf.2, wr1 (by omega) (by omega)]
      rfl
    · rw [List.drop_eq_getElem_cons hi]
      exact ih
theorem int_j0 (l : List Int) (hl : Bytes l) (hn : l.length ≤ 9223372036854775000) (h : Int) (t : List Int) (e : l = h :: t) (k : Nat) (hk1 : 1 ≤ k) (hk : k ≤ 8) (b : Bool) : Ev (fun q => codec_Int.j0 q l (k : Int) (flipN b)) (par k b t) := by
  subst e
  unfold par
  by_cases c : t.length < k
  · rw [if_pos c]
    refine Ev.step (f := fun _ => some (0, 0, 10)) (fun q => ?_) (Ev.now _)
    simp only [codec_Int.j0]
    rw [if_pos (by simp <;> omega)]
  · rw [if_neg c]
    have hlen : (t.take k).length = k := by simp <;> omega
    have lp := int_loop k b (t.take k) (hl.tail.take k) hk (by omega) k 0 0 (by omega) (by omega) (by decide)
    rw [List.drop_zero] at lp
    refine Ev.step (f := fun q => codec_Int.l0 q (k : Int) (flipN b) 0 (t.take k) ((t.take k).length : Int) ((0 : Nat) : Int)) (fun q => ?_) lp
    simp only [codec_Int.j0]
    rw [wr1 (by omega) (by omega)]
    rw [if_neg (by simp <;> omega), if_pos (by omega), if_pos (by simp <;> omega)]
    rw [show (1 + (k : Int)).toNat = k + 1 by omega, List.take_succ_cons, List.drop_succ_cons, List.drop_zero]
    rfl
theorem int_ev (l : List Int) (hl : Bytes l) (hn : l.length ≤ 9223372036854775000) : Ev (fun q => codec_Int.f q l) (P l) := by
  unfold codec_Int.f
  cases l with
  | nil => exact Ev.now _
  | cons h t =>
    have hh := hl h (by simp)
    have er : rd (h :: t) 0 = h := rfl
    rw [er, wr1 (x := h) (by omega) (by omega)]
    simp only [P]
    by_cases c1 : h > 216
    · rw [if_pos c1]
      refine Ev.congr (f := fun _ => some (0, 0, 11)) (fun q => ?_) (Ev.now _)
      rw [if_neg (by simp <;> omega), if_pos (by simp <;> omega), if_pos c1]
    · rw [if_neg c1]
      by_cases c2 : h > 208
      · rw [if_pos c2]
        refine Ev.congr (fun q => ?_) (int_j0 (h :: t) hl hn h t rfl (h - 208).toNat (by omega) (by omega) false)
        rw [if_neg (by simp <;> omega), if_pos (by simp <;> omega), if_neg c1, if_pos c2, wr1 (by omega) (by omega), show ((h - 208).toNat : Int) = h - 208 by omega]
        rfl
      · rw [if_neg c2]
        by_cases c3 : h < 8
        · rw [if_pos c3]
          refine Ev.congr (fun q => ?_) (int_j0 (h :: t) hl hn h t rfl (8 - h).toNat (by omega) (by omega) true)
          rw [if_neg (by simp <;> omega), if_pos (by simp <;> omega), if_neg c1, if_neg c2, if_pos c3, wr1 (by omega) (by omega), show ((8 - h).toNat : Int) = 8 - h by omega]
          rfl
        · rw [if_neg c3]
          refine Ev.congr (f := fun _ => some (h - 108, 1, 0)) (fun q => ?_) (Ev.now _)
          rw [if_neg (by simp <;> omega), if_pos (by simp <;> omega), if_neg c1, if_neg c2, if_neg c3, wr1 (by omega) (by omega)]

/-! ### the reference: reading -/
def fin2 (k : Nat) (b : Bool) (u : Int) : Int × Int × Int :=
  if u > 9223372036854775807 then (0, 0, 11) else if -100 ≤ (if b then -1 - u else u) ∧ (if b then -1 - u else u) ≤ 100 then (0, 0, 11) else ((if b then -1 - u else u), 1 + (k : Int), 0)
theorem par_loop (l : List Int) (hl : Bytes l) (h : Int) (b : Bool) (hb : (h < 8) = (b = true)) (k : Nat) (hk : k ≤ 8) (hkl : k + 1 ≤ l.length) : ∀ (d i : Nat) (acc : Int), 2 ≤ i → i + d = k + 1 → 0 ≤ acc → acc < 256 ^ (i - 1) →
    Ev (fun q => cressetref01_ParseInt.l0 q l h (k : Int) acc (i : Int)) (fin2 k b (valA acc (((l.take (k + 1)).drop i).map (fl b))))
  | 0, i, acc, h2, e, h0, h1 => by
    have e8 := p8
    have hi := p256_le (show i - 1 ≤ 8 by omega)
    rw [List.drop_eq_nil_of_le (by simp <;> omega)]
    have ef : valA acc (List.map (fl b) ([] : List Int)) = acc := rfl
    rw [ef]
    unfold fin2
    refine Ev.step (f := fun _ => some (if acc > 9223372036854775807 then (0, 0, 11) else if -100 ≤ (if b then -1 - acc else acc) ∧ (if b then -1 - acc else acc) ≤ 100 then (0, 0, 11) else ((if b then -1 - acc else acc), 1 + (k : Int), 0))) (fun q => ?_) (Ev.now _)
    simp only [cressetref01_ParseInt.l0]
    rw [if_neg (by omega)]
    by_cases c : acc > 9223372036854775807
    · rw [if_pos c, if_pos c]
    · rw [if_neg c, if_neg c, wr1 (x := acc) (by omega) (by omega), wr1 (x := -1 - acc) (by omega) (by omega), wr1 (x := 1 + (k : Int)) (by omega) (by omega)]
      cases b
      · rw [if_neg (by rw [hb]; decide)]
        simp only [Bool.false_eq_true, if_false]
        by_cases c1 : acc ≥ -100
        · by_cases c2 : acc ≤ 100
          · rw [if_pos c1, if_pos c2, if_pos ⟨c1, c2⟩]
          · rw [if_pos c1, if_neg c2, if_neg (fun h => c2 h.2)]
        · rw [if_neg c1, if_neg (fun h => c1 h.1)]
      · rw [if_pos (by rw [hb])]
        simp only [if_true]
        by_cases c1 : -1 - acc ≥ -100
        · by_cases c2 : -1 - acc ≤ 100
          · rw [if_pos c1, if_pos c2, if_pos ⟨c1, c2⟩]
          · rw [if_pos c1, if_neg c2, if_neg (fun h => c2 h.2)]
        · rw [if_neg c1, if_neg (fun h => c1 h.1)]
  | d + 1, i, acc, h2, e, h0, h1 => by
    have hi : i < l.length := by omega
    have hg := hl.get i hi
    have hf := fl_byte (b := b) hg
    have hp := p256_le (show i - 1 ≤ 7 by omega)
    have e7 : (256 : Int) ^ 7 = 72057594037927936 := by decide
    have hs := p256s (i - 1)
    rw [show i - 1 + 1 = i by omega] at hs
    have ih := par_loop l hl h b hb k hk hkl d (i + 1) (acc * 256 + fl b l[i]) (by omega) (by omega) (by omega) (by rw [show i + 1 - 1 = i by omega]; omega)
    refine Ev.step (f := fun q => cressetref01_ParseInt.l0 q l h (k : Int) (acc * 256 + fl b l[i]) ((i + 1 : Nat) : Int)) (fun q => ?_) ?_
    · simp only [cressetref01_ParseInt.l0]
      rw [if_pos (by omega), if_pos (by omega), if_pos (by omega), rd_get l i hi, wr1 (x := (i : Int) + 1) (by omega) (by omega)]
      cases b
      · have e1 : fl false l[i] = l[i] := rfl
        rw [e1] at *
        rw [if_neg (by rw [hb]; decide), if_neg (by omega), wu, wu, wu, show (acc * 256 % 18446744073709551616 + l[i] % 18446744073709551616) % 18446744073709551616 = acc * 256 + l[i] by omega]
        rfl
      · have e1 : fl true l[i] = 255 - l[i] := rfl
        rw [e1] at *
        rw [if_pos (by rw [hb]), if_neg (by omega), wu, wu, show (acc * 256 % 18446744073709551616 + (255 - l[i]) % 256) % 18446744073709551616 = acc * 256 + (255 - l[i]) by omega]
        rfl
    · rw [List.drop_eq_getElem_cons (show i < (l.take (k + 1)).length by simp <;> omega), List.getElem_take]
      exact ih
/-- the two ways to tell that a form is the shortest one -/
theorem fin_eq {k : Nat} (hk : k ≤ 8) (b : Bool) {d : Int} {ds : List Int} (hd : Bytes (d :: ds)) (hl : ds.length + 1 = k) : fin k b (valA 0 (d :: ds)) = if d = 0 then (0, 0, 11) else fin2 k b (valA 0 (d :: ds)) := by
  have h1 := hd d (by simp)
  have e : valA 0 (d :: ds) = valA d ds := by simp [valA]
  rw [e]
  have hr := valA_range ds d hd.tail h1.1
  have p := p256 ds.length
  have hs := p256s ds.length
  rw [hl] at hs
  have hk1 : k - 1 = ds.length := by omega
  have hlo : 0 ≤ valA d ds := Int.le_trans (Int.mul_nonneg h1.1 (by omega)) hr.1
  unfold fin fin2
  generalize hu : valA d ds = u at *
  by_cases c : u < 9223372036854775808
  · rw [if_pos c, if_neg (show ¬ u > 9223372036854775807 by omega)]
    have hn : i64 (if b then -1 - u else u) := by cases b <;> simp [i64] <;> omega
    have hm : mag (if b then -1 - u else u) = u := by cases b <;> simp [mag] <;> omega
    generalize (if b then -1 - u else u) = n at *
    by_cases hz : kw n = 0
    · have := kw_small hn hz
      rw [if_neg (show ¬ kw n = k by omega), if_pos (show -100 ≤ n ∧ n ≤ 100 from this)]
      split <;> rfl
    · have hw := kw_mag hn hz
      rw [hm] at hw
      rw [if_neg (show ¬ (-100 ≤ n ∧ n ≤ 100) by omega)]
      by_cases d0 : d = 0
      · rw [if_pos d0, if_neg ?_]
        intro hc
        rw [hc] at hw
        obtain ⟨_, _, _, h4⟩ := hw.1
        rw [hk1] at h4
        subst d0
        rcases h4 with h4 | h4
        · have e0 : ds.length = 0 := by omega
          rw [e0] at hr
          simp at hr
          have : n = 0 ∨ n = -1 := by unfold mag at hm; split at hm <;> omega
          omega
        · rw [show ((0 : Int) + 1) * 256 ^ ds.length = 256 ^ ds.length by rw [Int.zero_add, Int.one_mul]] at hr
          omega
      · rw [if_neg d0, if_pos ?_]
        refine hw.1.uniq ⟨by omega, hlo, ?_, .inr ?_⟩
        · have h5 : (d + 1) * 256 ^ ds.length ≤ 256 * 256 ^ ds.length := Int.mul_le_mul_of_nonneg_right (by omega) (by omega)
          rw [Int.mul_comm] at hs
          omega
        · rw [hk1]
          have h5 : 1 * 256 ^ ds.length ≤ d * 256 ^ ds.length := Int.mul_le_mul_of_nonneg_right (by omega) (by omega)
          omega
  · rw [if_neg c, if_pos (show u > 9223372036854775807 by omega)]
    split <;> rfl
theorem par_ref (l : List Int) (hl : Bytes l) (hn : l.length ≤ 9223372036854775000) (h : Int) (t : List Int) (e : l = h :: t) (k : Nat) (hk1 : 1 ≤ k) (hk : k ≤ 8) (b : Bool) (hb : (h < 8) = (b = true)) : Ev (fun q => cressetref01_ParseInt.j1 q l h (k : Int)) (par k b t) := by
  subst e
  unfold par
  by_cases c : t.length < k
  · rw [if_pos c]
    refine Ev.step (f := fun _ => some (0, 0, 10)) (fun q => ?_) (Ev.now _)
    simp only [cressetref01_ParseInt.j1]
    have hw : wrap64 (((h :: t).length : Int) - 1) = t.length := by rw [wr1 (by omega) (by omega)]; simp
    rw [if_pos (show (k : Int) > wrap64 (((h :: t).length : Int) - 1) by rw [hw]; omega)]
  · rw [if_neg c]
    obtain ⟨d, ds, rfl⟩ : ∃ d ds, t = d :: ds := by
      cases t with
      | nil => simp at c; omega
      | cons d ds => exact ⟨d, ds, rfl⟩
    obtain ⟨m, rfl⟩ : ∃ m, k = m + 1 := ⟨k - 1, by omega⟩
    have hd := hl d (by simp)
    have hf := fl_byte (b := b) hd
    rw [List.take_succ_cons, List.map_cons, fin_eq hk b (by
      have := (hl.tail.take (m + 1)).fl b
      rwa [List.take_succ_cons, List.map_cons] at this) (by simp at c ⊢; omega)]
    refine Ev.step (f := fun q => cressetref01_ParseInt.l0 q (h :: d :: ds) h ((m + 1 : Nat) : Int) 0 1) (fun q => ?_) ?_
    · simp only [cressetref01_ParseInt.j1]
      have hw : wrap64 (((h :: d :: ds).length : Int) - 1) = (d :: ds).length := by rw [wr1 (by omega) (by omega)]; simp
      rw [if_neg (show ¬ ((m + 1 : Nat) : Int) > wrap64 (((h :: d :: ds).length : Int) - 1) by rw [hw]; omega)]
    · have er : rd (h :: d :: ds) 1 = d := rfl
      by_cases z : fl b d = 0
      · rw [if_pos z]
        refine Ev.step (f := fun q => some (0, 0, 11)) (fun q => ?_) (Ev.now _)
        simp only [cressetref01_ParseInt.l0]
        rw [if_pos (by omega), if_pos (by omega), if_pos (by simp <;> omega), er]
        cases b
        · have z : d = 0 := z
          rw [if_neg (show ¬ h < 8 by rw [hb]; decide), if_pos (show True from trivial), if_pos z]
        · have z : 255 - d = 0 := z
          rw [if_pos (show h < 8 by rw [hb]), if_pos (show True from trivial), if_pos (by omega)]
      · rw [if_neg z]
        have lp := par_loop (h :: d :: ds) hl h b hb (m + 1) hk (by simp at c ⊢; omega) m 2 (fl b d) (by omega) (by omega) hf.1 (by simpa using hf.2)
        rw [show (h :: d :: ds).take (m + 1 + 1) = h :: d :: ds.take m by simp] at lp
        have ev : valA 0 (fl b d :: List.map (fl b) (ds.take m)) = valA (fl b d) (List.map (fl b) (ds.take m)) := by simp [valA]
        rw [ev]
        refine Ev.step (f := fun q => cressetref01_ParseInt.l0 q (h :: d :: ds) h ((m + 1 : Nat) : Int) (fl b d) ((2 : Nat) : Int)) (fun q => ?_) (by simpa using lp)
        simp only [cressetref01_ParseInt.l0]
        rw [if_pos (by omega), if_pos (by omega), if_pos (by simp <;> omega), er, wr1 (x := (1 : Int) + 1) (by omega) (by omega)]
        cases b
        · have z : ¬ d = 0 := z
          have e1 : fl false d = d := rfl
          rw [if_neg (show ¬ h < 8 by rw [hb]; decide), if_pos (show True from trivial), if_neg z, wu, wu, wu, e1, show ((0 : Int) * 256 % 18446744073709551616 + d % 18446744073709551616) % 18446744073709551616 = d by omega]
          rfl
        · have z : ¬ 255 - d = 0 := z
          have e1 : fl true d = 255 - d := rfl
          rw [if_pos (show h < 8 by rw [hb]), if_pos (show True from trivial), if_neg (by omega), wu, wu, e1, show ((0 : Int) * 256 % 18446744073709551616 + (255 - d) % 256) % 18446744073709551616 = 255 - d by omega]
          rfl
theorem parse_ev (l : List Int) (hl : Bytes l) (hn : l.length ≤ 9223372036854775000) : Ev (fun q => cressetref01_ParseInt.f q l) (P l) := by
  unfold cressetref01_ParseInt.f
  cases l with
  | nil => exact Ev.now _
  | cons h t =>
    have hh := hl h (by simp)
    have er : rd (h :: t) 0 = h := rfl
    rw [er, wr1 (x := h) (by omega) (by omega)]
    simp only [P]
    by_cases c1 : h > 216
    · rw [if_pos c1]
      refine Ev.congr (f := fun _ => some (0, 0, 11)) (fun q => ?_) (Ev.now _)
      rw [if_neg (by simp <;> omega), if_pos (by simp <;> omega), if_pos c1]
    · rw [if_neg c1]
      by_cases c2 : h > 208
      · rw [if_pos c2]
        have hp := par_ref (h :: t) hl hn h t rfl (h - 208).toNat (by omega) (by omega) false (by simp <;> omega)
        refine Ev.congr (f := fun q => cressetref01_ParseInt.j0 q (h :: t) h false) (fun q => ?_) ?_
        · rw [if_neg (by simp <;> omega), if_pos (by simp <;> omega), if_neg c1, if_pos (by omega), decide_eq_false (by omega)]
        · refine Ev.step (fun q => ?_) hp
          simp only [cressetref01_ParseInt.j0]
          rw [if_neg (by decide), if_neg (by omega), wr1 (by omega) (by omega), show ((h - 208).toNat : Int) = h - 208 by omega]
      · rw [if_neg c2]
        by_cases c3 : h < 8
        · rw [if_pos c3]
          have hp := par_ref (h :: t) hl hn h t rfl (8 - h).toNat (by omega) (by omega) true (by simp <;> omega)
          refine Ev.congr (f := fun q => cressetref01_ParseInt.j0 q (h :: t) h false) (fun q => ?_) ?_
          · rw [if_neg (by simp <;> omega), if_pos (by simp <;> omega), if_neg c1, if_neg (by omega)]
          · refine Ev.step (fun q => ?_) hp
            simp only [cressetref01_ParseInt.j0]
            rw [if_neg (by decide), if_pos c3, wr1 (by omega) (by omega), show ((8 - h).toNat : Int) = 8 - h by omega]
        · rw [if_neg c3]
          refine Ev.congr (f := fun q => cressetref01_ParseInt.j0 q (h :: t) h true) (fun q => ?_) ?_
          · rw [if_neg (by simp <;> omega), if_pos (by simp <;> omega), if_neg c1, if_pos (by omega), decide_eq_true (by omega)]
          · refine Ev.step (f := fun _ => some (h - 108, 1, 0)) (fun q => ?_) (Ev.now _)
            simp only [cressetref01_ParseInt.j0]
            rw [if_pos trivial, wr1 (by omega) (by omega)]

/-! ### the reference: writing -/
theorem digs_more (u : Int) : ∀ (j : Nat) (xs : List Int), xs ≠ [] → j ≤ 8 → xs.length + j ≤ 1000 → Ev (fun q => cressetref01_digits.l0 q u xs ((j : Int) - 1)) (xs ++ dig j u)
  | 0, xs, _, _, _ => by
    refine Ev.step (f := fun _ => some xs) (fun q => ?_) (by simpa [dig] using Ev.now _)
    simp only [cressetref01_digits.l0]
    rw [if_neg (by omega)]
  | j + 1, xs, hx, hj, hn => by
    have ih := digs_more u j (xs ++ [u / 256 ^ j % 256]) (by simp) (by omega) (by simp <;> omega)
    refine Ev.step (f := fun q => cressetref01_digits.l0 q u (xs ++ [u / 256 ^ j % 256]) ((j : Int) - 1)) (fun q => ?_) (by simpa [dig] using ih)
    have hp : 0 < xs.length := List.length_pos_iff.mpr hx
    simp only [cressetref01_digits.l0]
    rw [show ((j + 1 : Nat) : Int) - 1 = (j : Int) by omega, wr1 (x := 8 * (j : Int)) (by omega) (by omega), wr1 (x := (j : Int) - 1) (by omega) (by omega), shr8 rfl u j (by omega)]
    rw [if_pos (by omega), if_pos (by omega)]
    by_cases c : u / 256 ^ j % 256 = 0
    · rw [if_pos c, if_pos (by omega), if_pos (by omega)]
    · rw [if_neg c, if_pos (by omega)]
theorem digs_first (j : Nat) : ∀ (u : Int), j ≤ 7 → 0 ≤ u → u < 256 ^ (j + 1) → Ev (fun q => cressetref01_digits.l0 q u [] (j : Int)) (dig (bwf j u) u) := by
  induction j with
  | zero =>
    intro u _ h0 h1
    have ih := digs_more u 0 [u / 256 ^ 0 % 256] (by simp) (by omega) (by simp)
    refine Ev.step (f := fun q => cressetref01_digits.l0 q u [u / 256 ^ 0 % 256] (((0 : Nat) : Int) - 1)) (fun q => ?_) (by simpa [dig, bwf] using ih)
    simp only [cressetref01_digits.l0]
    rw [wr1 (x := 8 * ((0 : Nat) : Int)) (by omega) (by omega), wr1 (x := ((0 : Nat) : Int) - 1) (by omega) (by omega), shr8 rfl u 0 (by omega)]
    rw [if_pos (by omega), if_pos (by omega)]
    by_cases c : u / 256 ^ 0 % 256 = 0
    · rw [if_pos c, if_neg (by simp), if_pos (by omega), if_pos (by simp)]; rfl
    · rw [if_neg c, if_pos (by simp)]; rfl
  | succ j IH =>
    intro u hj h0 h1
    have p := p256 (j + 1)
    have hs := p256s (j + 1)
    have hq : u / 256 ^ (j + 1) < 256 := Int.ediv_lt_of_lt_mul p (by rw [hs, Int.mul_comm] at h1; exact h1)
    have hq0 : 0 ≤ u / 256 ^ (j + 1) := Int.ediv_nonneg h0 (by omega)
    have hz : (u / 256 ^ (j + 1) % 256 = 0) ↔ u < 256 ^ (j + 1) := by
      rw [Int.emod_eq_of_lt hq0 hq]
      constructor
      · intro h
        have h3 := Int.emod_def u (256 ^ (j + 1))
        rw [h, Int.mul_zero, Int.sub_zero] at h3
        have := Int.emod_lt_of_pos u p
        omega
      · intro h; exact Int.ediv_eq_zero_of_lt h0 h
    unfold bwf
    by_cases c : u < 256 ^ (j + 1)
    · rw [if_pos c]
      refine Ev.step (f := fun q => cressetref01_digits.l0 q u [] (j : Int)) (fun q => ?_) (IH u (by omega) h0 c)
      simp only [cressetref01_digits.l0]
      rw [wr1 (x := 8 * ((j + 1 : Nat) : Int)) (by omega) (by omega), wr1 (x := ((j + 1 : Nat) : Int) - 1) (by omega) (by omega), shr8 rfl u (j + 1) (by omega)]
      rw [if_pos (by omega), if_pos (by omega), if_pos (hz.mpr c), if_neg (by simp), if_neg (by omega), show ((j + 1 : Nat) : Int) - 1 = (j : Int) by omega]
    · rw [if_neg c]
      have ih := digs_more u (j + 1) [u / 256 ^ (j + 1) % 256] (by simp) (by omega) (by simp <;> omega)
      refine Ev.step (f := fun q => cressetref01_digits.l0 q u [u / 256 ^ (j + 1) % 256] (((j + 1 : Nat) : Int) - 1)) (fun q => ?_) (by simpa [dig] using ih)
      simp only [cressetref01_digits.l0]
      rw [wr1 (x := 8 * ((j + 1 : Nat) : Int)) (by omega) (by omega), wr1 (x := ((j + 1 : Nat) : Int) - 1) (by omega) (by omega), shr8 rfl u (j + 1) (by omega)]
      rw [if_pos (by omega), if_pos (by omega), if_neg (fun h => c (hz.mp h)), if_pos (by simp)]
      rfl
theorem digits_ev {u : Int} (h0 : 0 ≤ u) (h : u < 18446744073709551616) : Ev (fun q => cressetref01_digits.f q u) (dig (bw u) u) := by
  have h8 := p8
  have e : bw u = bwf 7 u := by
    show bwf (7 + 1) u = bwf 7 u
    rw [bwf]
    exact if_pos (by rw [p8]; exact h)
  rw [e]
  exact digs_first 7 u (by omega) h0 (by rw [p8]; exact h)
theorem refint_loop (ds : List Int) (hb : Bytes ds) (hl : ds.length ≤ 100) : ∀ (d i : Nat) (acc : List Int), i + d = ds.length → acc.length + d ≤ 1000 → Ev (fun q => cressetref01_Int.l0 q ds acc (i : Int)) (acc ++ (ds.drop i).map (fl true))
  | 0, i, acc, h, ha => by
    rw [List.drop_eq_nil_of_le (by omega)]
    refine Ev.step (f := fun _ => some acc) (fun q => ?_) (by simpa using Ev.now _)
    simp only [cressetref01_Int.l0]
    rw [if_neg (by omega)]
  | d + 1, i, acc, h, ha => by
    have hi : i < ds.length := by omega
    have hg := hb.get i hi
    have ih := refint_loop ds hb hl d (i + 1) (acc ++ [fl true ds[i]]) (by omega) (by simp <;> omega)
    refine Ev.step (f := fun q => cressetref01_Int.l0 q ds (acc ++ [fl true ds[i]]) ((i + 1 : Nat) : Int)) (fun q => ?_) ?_
    · simp only [cressetref01_Int.l0]
      rw [if_pos (by omega), if_pos (by omega), if_pos (by omega), rd_get ds i hi, wr1 (by omega) (by omega), show (255 - ds[i]) % 256 = 255 - ds[i] by omega]
      rfl
    · rw [List.drop_eq_getElem_cons hi, List.map_cons]
      rw [List.append_assoc] at ih
      exact ih
theorem refI_ev {n : Int} (h : i64 n) : Ev (fun q => cressetref01_Int.f q n) (I n) := by
  have hk := kw_le h
  have hh := h
  obtain ⟨h0, h1⟩ := hh
  unfold I
  by_cases c : kw n = 0
  · have hs := kw_small h c
    rw [if_pos c]
    refine Ev.congr (f := fun q => cressetref01_Int.j0 q n true) (fun q => ?_) ?_
    · unfold cressetref01_Int.f
      rw [if_pos (by omega), decide_eq_true (by omega)]
    · refine Ev.step (f := fun _ => some [n + 108]) (fun q => ?_) (Ev.now _)
      simp only [cressetref01_Int.j0]
      rw [if_pos trivial, wr1 (by omega) (by omega), show (n + 108) % 256 = n + 108 by omega]
  · have hm := kw_mag h c
    rw [if_neg c]
    refine Ev.congr (f := fun q => cressetref01_Int.j0 q n false) (fun q => ?_) ?_
    · unfold cressetref01_Int.f
      by_cases d : n ≥ -100
      · rw [if_pos d, decide_eq_false (by omega)]
      · rw [if_neg d]
    · by_cases d : n < 0
      · have e : mag n = -1 - n := if_pos d
        have e2 : ng n = true := decide_eq_true d
        have ek : kw n = bw (-1 - n) := by unfold kw; rw [if_neg (by omega), if_pos (by omega)]
        rw [if_pos d, e, e2]
        have lp := refint_loop (dig (kw n) (-1 - n)) (dig_byte _ _) (by rw [dig_length]; omega) (kw n) 0 [8 - (kw n : Int)] (by rw [dig_length]; omega) (by simp; omega)
        rw [List.drop_zero] at lp
        have dg := digits_ev (u := -1 - n) (by omega) (by omega)
        rw [← ek] at dg
        refine Ev.step (f := fun q => (cressetref01_digits.f q (-1 - n)).bind fun t => cressetref01_Int.l0 q t ([(wrap64 (8 - (t.length : Int))) % 256]) 0) (fun q => ?_) (Ev.bind dg ?_)
        · simp only [cressetref01_Int.j0]
          rw [if_neg (by decide), if_neg (by omega), wr1 (x := n + 1) (by omega) (by omega), wr1 (x := -(n + 1)) (by omega) (by omega), wu, show -(n + 1) % 18446744073709551616 = -1 - n by omega]
        · rw [dig_length, wr1 (by omega) (by omega), show (8 - (kw n : Int)) % 256 = 8 - (kw n : Int) by omega]
          exact lp
      · have e : mag n = n := if_neg d
        have e2 : ng n = false := decide_eq_false d
        have ek : kw n = bw n := by unfold kw; rw [if_pos (by omega)]
        rw [if_neg d, e, e2]
        have dg := digits_ev (u := n) (by omega) (by omega)
        rw [← ek] at dg
        have ef : List.map (fl false) (dig (kw n) n) = dig (kw n) n := List.map_id' _
        rw [ef]
        refine Ev.step (f := fun q => (cressetref01_digits.f q n).bind fun t => (some ([(wrap64 (208 + (t.length : Int))) % 256])).bind fun y => if y.length + t.length < 140737488355328 then some (y ++ t) else none) (fun q => ?_) (Ev.bind dg ?_)
        · simp only [cressetref01_Int.j0]
          rw [if_neg (by decide), if_pos (by omega), wu, show n % 18446744073709551616 = n by omega]
        · refine Ev.bind (Ev.now _) ?_
          rw [dig_length, wr1 (by omega) (by omega), show (208 + (kw n : Int)) % 256 = 208 + (kw n : Int) by omega, if_pos (by simp; omega)]
          exact Ev.now _
theorem eq_ev (l : List Int) : Ev (fun _ => bytes_Equal.f l l) true := by
  unfold bytes_Equal.f
  rw [beq_self_eq_true]
  exact Ev.now _
theorem live_ev : Ev (fun k => cressetlaw01_live.f k) true := Ev.now _
theorem clone_ev (l : List Int) (h : l.length < 140737488355328) : Ev (fun _ => bytes_Clone.f l) l := by
  unfold bytes_Clone.f
  rw [if_pos h]
  exact Ev.now _
theorem i64_of {n : Int} (h : (Lit.int .i64 n).wf = true) : i64 n := by
  simp [Lit.wf, IntKind.min, IntKind.max, IntKind.bits, IntKind.signed] at h
  unfold i64
  omega
end Go.Proofs.Ytphdinelioendaa.Lib

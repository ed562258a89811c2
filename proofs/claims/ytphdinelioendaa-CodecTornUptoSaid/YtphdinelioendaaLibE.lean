import Derived.Test.YtphdinelioendaaLibD
import Derived.Test.YtphdinelioendaaBx15
import Derived.Test.YtphdinelioendaaBx17
namespace Go.Proofs.Ytphdinelioendaa.Lib
open Go.RowKit Go.Proofs.Ytphdinelioendaa.B Go.Proofs.YtphdinelioendaaW.PrintWords Go.Proofs.YtphdinelioendaaW.PrintLast Go.Proofs.YtphdinelioendaaW.PrintMore
set_option linter.unusedVariables false
set_option linter.unusedSimpArgs false

/-! ### sums -/
def sm (p : Int × Int) (ds : List Int) : Int × Int := ds.foldl (fun p d => ((p.1 + d) % 65521, (p.2 + (p.1 + d) % 65521) % 65521)) p
def out (p : Int × Int) : Int := p.2 * 65536 + p.1
/-- the check of bytes -/
def S (ds : List Int) : Int := out (sm (1, 0) ds)
def ok65 (p : Int × Int) : Prop := 0 ≤ p.1 ∧ p.1 < 65521 ∧ 0 ≤ p.2 ∧ p.2 < 65521
theorem sm_cons (p : Int × Int) (d : Int) (ds : List Int) : sm p (d :: ds) = sm ((p.1 + d) % 65521, (p.2 + (p.1 + d) % 65521) % 65521) ds := rfl
theorem sm_app (p : Int × Int) (x y : List Int) : sm p (x ++ y) = sm (sm p x) y := List.foldl_append
theorem sm_ok : ∀ (ds : List Int) (p : Int × Int), ok65 p → ok65 (sm p ds)
  | [], _, h => h
  | d :: ds, p, h => by
    rw [sm_cons]
    exact sm_ok ds _ ⟨by simp; omega, by simp; omega, by simp; omega, by simp; omega⟩
theorem S_range (ds : List Int) : 0 ≤ S ds ∧ S ds < 4294967296 := by
  have := sm_ok ds (1, 0) ⟨by simp, by simp, by simp, by simp⟩
  unfold S out
  obtain ⟨a, b, c, d⟩ := this
  omega
theorem sum_ref_loop (l : List Int) (hb : Bytes l) (hl : l.length ≤ 9223372036854775000) : ∀ (d i : Nat) (p : Int × Int), i + d = l.length → ok65 p → Ev (fun k => cressetref01_Sum.l0 k l p.1 p.2 (i : Int)) (out (sm p (l.drop i)))
  | 0, i, p, h, hp => by
    obtain ⟨a, b, c, d⟩ := hp
    rw [List.drop_eq_nil_of_le (by omega)]
    refine Ev.step (f := fun _ => some (out p)) (fun k => ?_) (Ev.now _)
    simp only [cressetref01_Sum.l0]
    rw [if_neg (by omega)]
    unfold out
    congr 1
    omega
  | d + 1, i, p, h, hp => by
    have hi : i < l.length := by omega
    have hg := hb.get i hi
    have hp' := hp
    obtain ⟨a, b, c, e⟩ := hp'
    have ih := sum_ref_loop l hb hl d (i + 1) ((p.1 + l[i]) % 65521, (p.2 + (p.1 + l[i]) % 65521) % 65521) (by omega) ⟨by simp; omega, by simp; omega, by simp; omega, by simp; omega⟩
    rw [List.drop_eq_getElem_cons hi, sm_cons]
    refine Ev.step (fun k => ?_) ih
    simp only [cressetref01_Sum.l0]
    rw [if_pos (by omega), if_pos (by omega), rd_get l i hi, wr1 (by omega) (by omega)]
    have e1 : (p.1 + l[i] % 4294967296) % 4294967296 % 65521 = (p.1 + l[i]) % 65521 := by omega
    rw [e1]
    have e2 : (p.2 + (p.1 + l[i]) % 65521) % 4294967296 % 65521 = (p.2 + (p.1 + l[i]) % 65521) % 65521 := by omega
    rw [e2]
    rfl
theorem sum_ref_ev (l : List Int) (hb : Bytes l) (hl : l.length ≤ 9223372036854775000) : Ev (fun k => cressetref01_Sum.f k l) (S l) := by
  have := sum_ref_loop l hb hl l.length 0 (1, 0) (by omega) ⟨by simp, by simp, by simp, by simp⟩
  rw [List.drop_zero] at this
  exact this
theorem rdL_get (L : List (List Int)) (i : Nat) (h : i < L.length) : rd_L1 L (i : Int) = L[i] := by
  unfold rd_L1
  rw [Int.toNat_natCast, List.getD_eq_getElem?_getD, List.getElem?_eq_getElem h]
  rfl
theorem sum_in (L : List (List Int)) (i : Nat) (hi : i < L.length) (hl : L.length ≤ 9223372036854775000) (xs : List Int) (hb : Bytes xs) (hx : xs.length ≤ 9223372036854775000) (tl : List Int)
    (IH : ∀ p : Int × Int, ok65 p → Ev (fun k => codec_Sum.l0 k p.1 p.2 L (L.length : Int) ((i + 1 : Nat) : Int)) (out (sm p tl))) :
    ∀ (d j : Nat) (p : Int × Int), j + d = xs.length → ok65 p → Ev (fun k => codec_Sum.l1 k p.1 p.2 L (L.length : Int) (i : Int) xs (xs.length : Int) (j : Int)) (out (sm (sm p (xs.drop j)) tl))
  | 0, j, p, h, hp => by
    rw [List.drop_eq_nil_of_le (by omega)]
    refine Ev.step (fun k => ?_) (IH p hp)
    simp only [codec_Sum.l1]
    rw [if_neg (by omega), wr1 (by omega) (by omega)]
    rfl
  | d + 1, j, p, h, hp => by
    have hj : j < xs.length := by omega
    have hg := hb.get j hj
    have hp' := hp
    obtain ⟨a, b, c, e⟩ := hp'
    have ih := sum_in L i hi hl xs hb hx tl IH d (j + 1) ((p.1 + xs[j]) % 65521, (p.2 + (p.1 + xs[j]) % 65521) % 65521) (by omega) ⟨by simp; omega, by simp; omega, by simp; omega, by simp; omega⟩
    rw [List.drop_eq_getElem_cons hj, sm_cons]
    refine Ev.step (fun k => ?_) ih
    simp only [codec_Sum.l1]
    rw [if_pos (by omega), if_pos (by omega), if_pos (by omega), rd_get xs j hj, wr1 (x := (j : Int) + 1) (by omega) (by omega)]
    have e1 : (p.1 + xs[j] % 4294967296) % 4294967296 % 65521 = (p.1 + xs[j]) % 65521 := by omega
    rw [e1]
    have e2 : (p.2 + (p.1 + xs[j]) % 65521) % 4294967296 % 65521 = (p.2 + (p.1 + xs[j]) % 65521) % 65521 := by omega
    rw [e2]
    rfl
theorem sum_loop (L : List (List Int)) (hl : L.length ≤ 9223372036854775000) (hb : ∀ x ∈ L, Bytes x ∧ x.length ≤ 9223372036854775000) : ∀ (d i : Nat) (p : Int × Int), i + d = L.length → ok65 p → Ev (fun k => codec_Sum.l0 k p.1 p.2 L (L.length : Int) (i : Int)) (out (sm p (L.drop i).flatten))
  | 0, i, p, h, hp => by
    obtain ⟨a, b, c, e⟩ := hp
    rw [List.drop_eq_nil_of_le (by omega)]
    refine Ev.step (f := fun _ => some (out p)) (fun k => ?_) (Ev.now _)
    simp only [codec_Sum.l0]
    rw [if_neg (by omega), or16 p.2 p.1 c (by omega) a (by omega)]
    rfl
  | d + 1, i, p, h, hp => by
    have hi : i < L.length := by omega
    have hx := hb _ (List.getElem_mem hi)
    have IH := fun q hq => sum_loop L hl hb d (i + 1) q (by omega) hq
    have ih := sum_in L i hi hl L[i] hx.1 hx.2 _ IH L[i].length 0 p (by omega) hp
    rw [List.drop_eq_getElem_cons hi, List.flatten_cons, sm_app]
    rw [List.drop_zero] at ih
    refine Ev.step (fun k => ?_) ih
    simp only [codec_Sum.l0]
    rw [if_pos (by omega), if_pos (by omega), if_pos (by omega), rdL_get L i hi]
    rfl
theorem sum_ev (L : List (List Int)) (hl : L.length ≤ 9223372036854775000) (hb : ∀ x ∈ L, Bytes x ∧ x.length ≤ 9223372036854775000) : Ev (fun k => codec_Sum.f k L) (S L.flatten) := by
  have := sum_loop L hl hb L.length 0 (1, 0) (by omega) ⟨by simp, by simp, by simp, by simp⟩
  rw [List.drop_zero] at this
  exact this
theorem sum1_ev (l : List Int) (hb : Bytes l) (hl : l.length ≤ 9223372036854775000) : Ev (fun k => codec_Sum.f k [l]) (S l) := by
  have := sum_ev [l] (by simp) (by intro x hx; rw [List.mem_singleton.mp hx]; exact ⟨hb, hl⟩)
  simpa using this

/-! ### frames -/
def tail4 (s : Int) : List Int := [s / 16777216 % 256, s / 65536 % 256, s / 256 % 256, s % 256]
def Fr (l : List Int) : List Int × Int := if (l.length : Int) > 1048576 then ([], 3) else (I l.length ++ l ++ tail4 (S l), 0)
theorem frame_ev (l : List Int) (hb : Bytes l) (hl : l.length ≤ 140737488355000) : Ev (fun k => codec_Frame.f k l) (Fr l) := by
  have hs : i64 (l.length : Int) := ⟨by omega, by omega⟩
  have hk := kw_le hs
  unfold codec_Frame.f Fr
  by_cases c : (l.length : Int) > 1048576
  · simp only [if_pos c]; exact Ev.now _
  · simp only [if_neg c]
    refine Ev.bind (sum1_ev l hb (by omega)) (Ev.bind (put_ev hs [] (by simp)) ?_)
    simp only [List.nil_append]
    refine Ev.congr (f := fun _ => some _) (fun k => ?_) (Ev.now _)
    rw [if_pos (by rw [I_length]; omega)]
    simp only [Option.bind_some]
    rw [if_pos (by simp [I_length]; omega)]
    rfl
theorem refframe_ev (l : List Int) (hb : Bytes l) (hl : l.length ≤ 140737488355000) : Ev (fun k => cressetref01_Frame.f k l) (Fr l) := by
  have hs : i64 (l.length : Int) := ⟨by omega, by omega⟩
  have hk := kw_le hs
  unfold cressetref01_Frame.f Fr
  by_cases c : (l.length : Int) > 1048576
  · simp only [if_pos c]; exact Ev.now _
  · simp only [if_neg c]
    have hB : Ev (fun k => cressetref01_Bytes.f k l) (I l.length ++ l) := by
      unfold cressetref01_Bytes.f
      refine Ev.bind (refI_ev hs) ?_
      refine Ev.congr (f := fun _ => some _) (fun k => ?_) (Ev.now _)
      rw [if_pos (by rw [I_length]; omega)]
    refine Ev.bind hB (Ev.bind (sum_ref_ev l hb (by omega)) ?_)
    refine Ev.congr (f := fun _ => some _) (fun k => ?_) (Ev.now _)
    unfold cressetref01_tail.f
    simp only [Option.bind_some]
    rw [if_pos (by simp [I_length]; omega)]
    rfl
def U (l : List Int) : List Int × Int × Int :=
  if (P l).2.2 = 0 then (if (P l).1 < 0 then ([], 0, 11) else if (P l).1 > 1048576 then ([], 0, 3) else if (P l).1 > (l.length : Int) - (P l).2.1 - 4 then ([], 0, 10) else
    if S ((l.take ((P l).2.1 + (P l).1).toNat).drop (P l).2.1.toNat) = valA 0 ((l.take ((P l).2.1 + (P l).1 + 4).toNat).drop ((P l).2.1 + (P l).1).toNat) then ((l.take ((P l).2.1 + (P l).1).toNat).drop (P l).2.1.toNat, (P l).2.1 + (P l).1 + 4, 0) else ([], 0, 12)) else ([], 0, (P l).2.2)
theorem sclone_ev (l : List Int) (h : l.length < 140737488355328) : Ev (fun _ => slices_Clone_byte_byte.f l) l := by
  unfold slices_Clone_byte_byte.f
  rw [if_pos h]
  exact Ev.now _
theorem un_loop (l : List Int) (hb : Bytes l) (hl : l.length ≤ 140737488355000) (s n : Nat) (h : s + n + 4 ≤ l.length) (q : List Int) (hq : q = (l.take (s + n + 4)).drop (s + n)) : ∀ (d i : Nat) (acc : Int), i + d = 4 → 0 ≤ acc → acc < 256 ^ i →
    Ev (fun k => codec_Unframe.l0 k l (s : Int) ((s + n : Nat) : Int) acc q (q.length : Int) (i : Int)) (if S ((l.take (s + n)).drop s) = valA acc (q.drop i) then ((l.take (s + n)).drop s, ((s + n + 4 : Nat) : Int), 0) else ([], 0, 12))
  | 0, i, acc, e, h0, h1 => by
    have hql : q.length = 4 := by rw [hq]; simp; omega
    have hbb : Bytes ((l.take (s + n)).drop s) := (hb.take _).drop _
    rw [List.drop_eq_nil_of_le (show q.length ≤ i by omega)]
    have ef : valA acc ([] : List Int) = acc := rfl
    rw [ef]
    refine Ev.step (f := fun k => (codec_Sum.f k [(l.take (s + n)).drop s]).bind fun t => if t = acc then ((slices_Clone_byte_byte.f ((l.take (s + n)).drop s)).bind fun u => some (u, ((s + n + 4 : Nat) : Int), 0)) else some ([], 0, 12)) (fun k => ?_) (Ev.bind (sum1_ev _ hbb (by simp; omega)) ?_)
    · simp only [codec_Unframe.l0]
      rw [if_neg (by omega), if_pos (by omega), if_pos (by omega), if_pos (by omega), wr1 (by omega) (by omega)]
      rfl
    · by_cases c : S ((l.take (s + n)).drop s) = acc
      · simp only [if_pos c]
        exact Ev.bind (sclone_ev _ (by simp; omega)) (Ev.now _)
      · simp only [if_neg c]
        exact Ev.now _
  | d + 1, i, acc, e, h0, h1 => by
    have hql : q.length = 4 := by rw [hq]; simp; omega
    have hi : i < q.length := by omega
    have hqb : Bytes q := by rw [hq]; exact (hb.take _).drop _
    have hg := hqb.get i hi
    have hp := p256_le (show i ≤ 3 by omega)
    have e3 : (256 : Int) ^ 3 = 16777216 := by decide
    have hs := p256s i
    have ih := un_loop l hb hl s n h q hq d (i + 1) (acc * 256 + q[i]) (by omega) (by omega) (by omega)
    rw [List.drop_eq_getElem_cons hi]
    refine Ev.step (fun k => ?_) ih
    simp only [codec_Unframe.l0]
    rw [if_pos (by omega), if_pos (by omega), if_pos (by omega), rd_get q i hi, wr1 (x := (i : Int) + 1) (by omega) (by omega), show q[i] % 4294967296 = q[i] by omega, or8_32 acc _ h0 (by omega) hg.1 hg.2]
    rfl
theorem unframe_ev (l : List Int) (hb : Bytes l) (hl : l.length ≤ 140737488355000) : Ev (fun k => codec_Unframe.f k l) (U l) := by
  unfold codec_Unframe.f U
  refine Ev.bind (int_ev l hb (by omega)) ?_
  generalize hP : P l = p
  obtain ⟨n, s, e⟩ := p
  simp only
  by_cases c : e = 0
  · subst c
    obtain ⟨⟨n0, n1⟩, hs, hle, _⟩ := P_ok hb hP
    simp only [eq_self, if_true]
    by_cases c1 : n < 0
    · simp only [if_pos c1]
      exact Ev.now _
    · simp only [if_neg c1]
      by_cases c2 : n > 1048576
      · simp only [if_pos c2]
        exact Ev.now _
      · simp only [if_neg c2]
        rw [wr1 (x := (l.length : Int) - s) (by omega) (by omega), wr1 (x := (l.length : Int) - s - 4) (by omega) (by omega)]
        by_cases c3 : n > (l.length : Int) - s - 4
        · simp only [if_pos c3]
          exact Ev.now _
        · simp only [if_neg c3]
          obtain ⟨m, rfl⟩ := Int.eq_ofNat_of_zero_le (show 0 ≤ n by omega)
          obtain ⟨z, rfl⟩ := Int.eq_ofNat_of_zero_le (show 0 ≤ s by omega)
          have lp := un_loop l hb hl z m (by omega) _ rfl 4 0 0 (by omega) (by omega) (by decide)
          rw [List.drop_zero] at lp
          rw [show ((z : Int) + (m : Int)).toNat = z + m by omega, show ((z : Int) + (m : Int) + 4).toNat = z + m + 4 by omega, Int.toNat_natCast, show (z : Int) + (m : Int) + 4 = ((z + m + 4 : Nat) : Int) by omega]
          refine Ev.congr (fun k => ?_) lp
          rw [wr1 (x := (z : Int) + (m : Int)) (by omega) (by omega), wr1 (x := (z : Int) + (m : Int) + 4) (by omega) (by omega), if_pos (by omega), if_pos (by omega), if_pos (by omega)]
          simp only [Option.bind_some]
          rw [show ((z : Int) + (m : Int)).toNat = z + m by omega, show ((z : Int) + (m : Int) + 4).toNat = z + m + 4 by omega]
          rfl
  · simp only [if_neg c]
    exact Ev.now _
theorem refun_loop (l : List Int) (hl : l.length ≤ 140737488355000) (m : Nat) (h : m + 4 ≤ l.length) (x : List Int) (q0 q1 q2 q3 t0 t1 t2 t3 : Int) (h0 : rd l (m : Int) = q0) (h1 : rd l ((m : Int) + 1) = q1) (h2 : rd l ((m : Int) + 2) = q2) (h3 : rd l ((m : Int) + 3) = q3) :
    Ev (fun k => cressetref01_Unframe.l0 k l ((m : Int) + 4) x [t0, t1, t2, t3] 0) (if q0 = t0 ∧ q1 = t1 ∧ q2 = t2 ∧ q3 = t3 then (x, (m : Int) + 4, 0) else ([], 0, 12)) := by
  have w : wrap64 ((m : Int) + 4 - 4) = m := by rw [wr1 (by omega) (by omega)]; omega
  have s4 : ∀ k, cressetref01_Unframe.l0 (k + 1) l ((m : Int) + 4) x [t0, t1, t2, t3] 4 = some (x, (m : Int) + 4, 0) := by
    intro k
    simp only [cressetref01_Unframe.l0]
    rw [if_neg (by omega)]
  have st : ∀ (i : Int) (q t : Int), 0 ≤ i → i < 4 → rd l ((m : Int) + i) = q → rd [t0, t1, t2, t3] i = t → ∀ k, cressetref01_Unframe.l0 (k + 1) l ((m : Int) + 4) x [t0, t1, t2, t3] i = if q = t then cressetref01_Unframe.l0 k l ((m : Int) + 4) x [t0, t1, t2, t3] (i + 1) else some ([], 0, 12) := by
    intro i q t hi0 hi1 hq ht k
    simp only [cressetref01_Unframe.l0]
    rw [w, wr1 (x := (m : Int) + i) (by omega) (by omega), wr1 (x := i + 1) (by omega) (by omega), hq, ht, if_pos (by omega), if_pos (by omega), if_pos (by omega), if_pos hi0, if_pos (by simp; omega)]
  have S0 := st 0 q0 t0 (by omega) (by omega) (by simpa using h0) rfl
  have S1 := st 1 q1 t1 (by omega) (by omega) h1 rfl
  have S2 := st 2 q2 t2 (by omega) (by omega) h2 rfl
  have S3 := st 3 q3 t3 (by omega) (by omega) h3 rfl
  by_cases c0 : q0 = t0
  · simp only [if_pos c0] at S0
    refine Ev.step S0 ?_
    by_cases c1 : q1 = t1
    · simp only [if_pos c1] at S1
      refine Ev.step S1 ?_
      by_cases c2 : q2 = t2
      · simp only [if_pos c2] at S2
        refine Ev.step S2 ?_
        by_cases c3 : q3 = t3
        · simp only [if_pos c3] at S3
          refine Ev.step S3 ?_
          rw [if_pos ⟨c0, c1, c2, c3⟩]
          exact Ev.step s4 (Ev.now _)
        · simp only [if_neg c3] at S3
          rw [if_neg (fun h => c3 h.2.2.2)]
          exact Ev.step S3 (Ev.now _)
      · simp only [if_neg c2] at S2
        rw [if_neg (fun h => c2 h.2.2.1)]
        exact Ev.step S2 (Ev.now _)
    · simp only [if_neg c1] at S1
      rw [if_neg (fun h => c1 h.2.1)]
      exact Ev.step S1 (Ev.now _)
  · simp only [if_neg c0] at S0
    rw [if_neg (fun h => c0 h.1)]
    exact Ev.step S0 (Ev.now _)
theorem refunframe_ev (l : List Int) (hb : Bytes l) (hl : l.length ≤ 140737488355000) : Ev (fun k => cressetref01_Unframe.f k l) (U l) := by
  unfold cressetref01_Unframe.f U
  refine Ev.bind (parse_ev l hb (by omega)) ?_
  generalize hP : P l = p
  obtain ⟨n, s, e⟩ := p
  simp only
  by_cases c : e = 0
  · subst c
    obtain ⟨⟨n0, n1⟩, hs, hle, _⟩ := P_ok hb hP
    simp only [eq_self, if_true]
    by_cases c1 : n < 0
    · simp only [if_pos c1]
      exact Ev.now _
    · simp only [if_neg c1]
      by_cases c2 : n > 1048576
      · simp only [if_pos c2]
        exact Ev.now _
      · simp only [if_neg c2]
        rw [wr1 (x := (l.length : Int) - s) (by omega) (by omega), wr1 (x := n + 4) (by omega) (by omega)]
        by_cases c3 : n > (l.length : Int) - s - 4
        · have c3' : n + 4 > (l.length : Int) - s := by omega
          simp only [if_pos c3, if_pos c3']
          exact Ev.now _
        · have c3' : ¬ n + 4 > (l.length : Int) - s := by omega
          simp only [if_neg c3, if_neg c3']
          obtain ⟨m, rfl⟩ := Int.eq_ofNat_of_zero_le (show 0 ≤ n by omega)
          obtain ⟨z, rfl⟩ := Int.eq_ofNat_of_zero_le (show 0 ≤ s by omega)
          rw [show ((z : Int) + (m : Int)).toNat = z + m by omega, show ((z : Int) + (m : Int) + 4).toNat = z + m + 4 by omega, Int.toNat_natCast]
          have hbb : Bytes ((l.take (z + m)).drop z) := (hb.take _).drop _
          have hlen : z + m + 4 ≤ l.length := by omega
          have hq : (l.take (z + m + 4)).drop (z + m) = [l[z + m], l[z + m + 1], l[z + m + 2], l[z + m + 3]] := by
            rw [List.drop_take, show z + m + 4 - (z + m) = 4 by omega, List.drop_eq_getElem_cons (show z + m < l.length by omega), List.drop_eq_getElem_cons (show z + m + 1 < l.length by omega), List.drop_eq_getElem_cons (show z + m + 1 + 1 < l.length by omega), List.drop_eq_getElem_cons (show z + m + 1 + 1 + 1 < l.length by omega)]
            rfl
          have hSr := S_range ((l.take (z + m)).drop z)
          have b0 := hb.get (z + m) (by omega)
          have b1 := hb.get (z + m + 1) (by omega)
          have b2 := hb.get (z + m + 2) (by omega)
          have b3 := hb.get (z + m + 3) (by omega)
          rw [hq]
          have lp := refun_loop l hl (z + m) hlen ((l.take (z + m)).drop z) _ _ _ _ (S ((l.take (z + m)).drop z) / 16777216 % 256) (S ((l.take (z + m)).drop z) / 65536 % 256) (S ((l.take (z + m)).drop z) / 256 % 256) (S ((l.take (z + m)).drop z) % 256) (rd_get l (z + m) (by omega)) (rd_get l (z + m + 1) (by omega)) (rd_get l (z + m + 2) (by omega)) (rd_get l (z + m + 3) (by omega))
          have hc : (l[z + m] = S ((l.take (z + m)).drop z) / 16777216 % 256 ∧ l[z + m + 1] = S ((l.take (z + m)).drop z) / 65536 % 256 ∧ l[z + m + 2] = S ((l.take (z + m)).drop z) / 256 % 256 ∧ l[z + m + 3] = S ((l.take (z + m)).drop z) % 256) ↔ S ((l.take (z + m)).drop z) = valA 0 [l[z + m], l[z + m + 1], l[z + m + 2], l[z + m + 3]] := by
            simp only [valA, List.foldl_cons, List.foldl_nil]
            generalize S ((l.take (z + m)).drop z) = sv at *
            generalize l[z + m] = y0 at *
            generalize l[z + m + 1] = y1 at *
            generalize l[z + m + 2] = y2 at *
            generalize l[z + m + 3] = y3 at *
            omega
          simp only [hc] at lp
          refine Ev.congr (f := fun k => (cressetref01_Sum.f k ((l.take (z + m)).drop z)).bind fun t => (cressetref01_tail.f t).bind fun u => cressetref01_Unframe.l0 k l ((z : Int) + (m : Int) + 4) ((l.take (z + m)).drop z) u 0) (fun k => ?_) (Ev.bind (sum_ref_ev _ hbb (by simp; omega)) (Ev.bind (Ev.now (tail4 _)) lp))
          rw [wr1 (x := (z : Int) + (m : Int)) (by omega) (by omega), wr1 (x := (z : Int) + (m : Int) + 4) (by omega) (by omega), wr1 (x := (z : Int) + (m : Int) + 4 - 4) (by omega) (by omega), show (z : Int) + (m : Int) + 4 - 4 = (z : Int) + (m : Int) by omega, if_pos (by omega), if_pos (by omega), if_pos (by omega), show ((z : Int) + (m : Int)).toNat = z + m by omega, if_pos (by simp; omega)]
          simp only [Option.bind_some, List.nil_append]
  · simp only [if_neg c]
    exact Ev.now _
end Go.Proofs.Ytphdinelioendaa.Lib

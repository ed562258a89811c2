/-
Of the row ImageBack: printed walks and plain laws, merged (wip/claim2.py).
-/
import Derived.Test.YtkflgkmblebdmaaQImageBack3
import Derived.Test.YtkflgkmblebdmaaQImageBack4
import Derived.Test.YtkflgkmblebdmaaQImageBack5
import Derived.Test.YtkflgkmblebdmaaQImageBack7
import Derived.Test.YtkflgkmblebdmaaQImageBack11
import Derived.Test.YtkflgkmblebdmaaQImageBack14
import Derived.Test.YtkflgkmblebdmaaQImageBack16
import Derived.Lib.Strings
set_option linter.unusedVariables false
set_option linter.unusedSimpArgs false
namespace Go.Proofs.Ytkflgkmblebdmaa.Im
open Go.RowKit Go.Shelf Go.Proofs.Ytkflgkmblebdmaa.B Go.Proofs.YtkflgkmblebdmaaW.PrintWords Go.Proofs.YtkflgkmblebdmaaW.PrintLast Go.Proofs.YtkflgkmblebdmaaW.PrintMore Go.Proofs.YtkflgkmblebdmaaW.Mine Go.Proofs.YtkflgkmblebdmaaW.Hp
theorem toList_eq (s : ByteArray) : s.toList = s.data.toList := Go.Lib.toList_data s
theorem app_toList (s t : ByteArray) : (s ++ t).toList = s.toList ++ t.toList := by
  rw [toList_eq, toList_eq, toList_eq]
  simp
theorem zero_toList : (⟨#[0]⟩ : ByteArray).toList = [0] := by rw [toList_eq]
theorem nil_toList : (⟨#[]⟩ : ByteArray).toList = [] := by rw [toList_eq]
theorem bl_next : ∀ (x y : List UInt8), Op.bytesLess x (y ++ [0]) = (Op.bytesLess x y || x == y)
  | [], [] => by decide
  | [], b :: y => by simp [Op.bytesLess]
  | a :: x, [] => by cases x <;> simp [Op.bytesLess]
  | a :: x, b :: y => by
    have ih := bl_next x y
    simp only [List.cons_append, Op.bytesLess, ih]
    by_cases h1 : a < b
    · simp [h1]
    · by_cases h2 : a = b
      · subst h2
        simp
      · have h3 : (a == b) = false := by simpa using h2
        simp [h1, h3]
theorem next_le (key last : ByteArray) : Op.bytesLess key.toList (last ++ ⟨#[0]⟩ : ByteArray).toList = kle key last := by
  rw [app_toList, zero_toList, bl_next]; rfl
def addI (s : S) (key : ByteArray) (l : List S87) : Int × S :=
  if keyE key ≠ 0 then (keyE key, s) else
  if Op.bytesLess key.toList s.fr.toList = true then (150, s) else
  if Lib.chk l ≠ 0 then (Lib.chk l, s) else
  if (Lib.seen l s.ts).2.2.2 = true ∧ (Lib.seen l s.ts).2.2.1 = false then (if (s.l.length : Int) ≥ 65536 then (3, s) else (0, ⟨s.ts, key ++ ⟨#[0]⟩, s.l ++ [⟨key, (Lib.seen l s.ts).2.1, (Lib.seen l s.ts).1⟩]⟩)) else (0, ⟨s.ts, key ++ ⟨#[0]⟩, s.l⟩)
theorem key_small {key : ByteArray} (h : keyE key = 0) : key.size ≤ 64 := by
  unfold keyE at h
  split at h
  · cases h
  · split at h
    · cases h
    · omega
theorem addO_eq (k : Nat) (s : S) (key : ByteArray) (l : List S87) (hk : version_Check.f k l = some (Lib.chk l)) (hl : l.length ≤ 9223372036854775807) : addO k s key l = some (addI s key l) := by
  unfold addO addI
  rw [key_eq, Option.bind_some, hk, Option.bind_some, Lib.at_eq l s.ts hl, Option.bind_some]
  by_cases h1 : keyE key = 0
  · have hn : keys_Next.f key = some (key ++ ⟨#[0]⟩) := by
      unfold keys_Next.f
      rw [if_pos (by have := key_small h1; omega)]
    rw [hn, Option.bind_some]
    by_cases h2 : Op.bytesLess key.toList s.fr.toList = true
    · simp only [h1, if_pos h2, not_true_eq_false, if_false, ne_eq]
    · by_cases h3 : Lib.chk l = 0
      · by_cases h4 : (Lib.seen l s.ts).2.2.2 = true ∧ (Lib.seen l s.ts).2.2.1 = false
        · by_cases h5 : (s.l.length : Int) ≥ 65536
          · simp only [h1, h3, if_neg h2, if_pos h4, if_pos h5, not_true_eq_false, if_false, ne_eq]
          · simp only [h1, h3, if_neg h2, if_pos h4, if_neg h5, not_true_eq_false, if_false, ne_eq]
        · simp only [h1, h3, if_neg h2, if_neg h4, not_true_eq_false, if_false, ne_eq]
      · simp only [h1, h3, if_neg h2, not_true_eq_false, not_false_eq_true, if_false, if_true, ne_eq]
  · simp only [h1, not_false_eq_true, if_true, ne_eq]
def Rel (s : S) (r : SR) : Prop := s.ts = r.ts ∧ s.l = r.l ∧ s.fr = fromR r ∧ r.last.size ≤ 64 ∧ s.l.length ≤ 65536
theorem rel_new (ts : Int) : Rel ⟨ts, ⟨#[]⟩, []⟩ ⟨ts, ⟨#[]⟩, false, []⟩ := ⟨rfl, rfl, rfl, Nat.zero_le _, Nat.zero_le _⟩
theorem from_le {s : S} {r : SR} (h : Rel s r) (key : ByteArray) : (Op.bytesLess key.toList s.fr.toList = true) ↔ (r.any = true ∧ kle key r.last = true) := by
  rw [h.2.2.1]
  unfold fromR
  by_cases ha : r.any = true
  · rw [if_pos ha, next_le]
    exact ⟨fun h => ⟨ha, h⟩, fun h => h.2⟩
  · rw [if_neg ha, nil_toList]
    constructor
    · intro h2; cases hx : key.toList <;> simp [hx, Op.bytesLess] at h2
    · intro h2; exact absurd h2.1 ha
theorem rel_add {s : S} {r : SR} (h : Rel s r) (key : ByteArray) (l : List S87) : (addI s key l).1 = (addR r key l).1 ∧ Rel (addI s key l).2 (addR r key l).2 := by
  have hf := from_le h key
  have h0 := h
  obtain ⟨h1, h2, h3, h4, h5⟩ := h
  unfold addI addR
  simp only [ne_eq]
  by_cases c1 : keyE key = 0
  · simp only [c1, not_true_eq_false, if_false]
    by_cases c2 : Op.bytesLess key.toList s.fr.toList = true
    · simp only [if_pos c2, if_pos (hf.1 c2)]
      exact ⟨trivial, h0⟩
    · have c2r : ¬ (r.any = true ∧ kle key r.last = true) := fun h => c2 (hf.2 h)
      simp only [if_neg c2, if_neg c2r]
      by_cases c3 : Lib.chk l = 0
      · simp only [c3, not_true_eq_false, if_false]
        rw [h1, h2]
        by_cases c4 : (Lib.seen l r.ts).2.2.2 = true ∧ (Lib.seen l r.ts).2.2.1 = false
        · simp only [if_pos c4]
          by_cases c5 : (r.l.length : Int) ≥ 65536
          · simp only [if_pos c5]
            exact ⟨trivial, h0⟩
          · simp only [if_neg c5]
            refine ⟨trivial, rfl, rfl, ?_, key_small c1, ?_⟩
            · show key ++ ⟨#[0]⟩ = fromR ⟨r.ts, key, true, _⟩
              unfold fromR; rw [if_pos rfl]
            · simp; omega
        · simp only [if_neg c4]
          refine ⟨trivial, rfl, rfl, ?_, key_small c1, by rw [← h2]; exact h5⟩
          show key ++ ⟨#[0]⟩ = fromR ⟨r.ts, key, true, _⟩
          unfold fromR; rw [if_pos rfl]
      · simp only [c3, not_false_eq_true, if_true]
        exact ⟨trivial, h0⟩
  · simp only [c1, not_false_eq_true, if_true]
    exact ⟨trivial, h0⟩
def chunkAt (l : List S56) (i : Nat) : S65 := ⟨(i : Int), piece l i, (top_ l i : Int) == (l.length : Int)⟩
def wantL (l : List S56) : List S65 := (List.range (nch l)).map (chunkAt l)
theorem wantL_len (l : List S56) : (wantL l).length = nch l := by simp [wantL]
theorem wantL_at (l : List S56) (i : Nat) (h : i < nch l) : rd_T65 (wantL l) (i : Int) = chunkAt l i := by
  unfold rd_T65 wantL
  simp [List.getD_eq_getElem?_getD, h]
theorem chunks_loop (l : List S56) (hl : l.length ≤ 65536) : ∀ (d j : Nat), j + d + 1 = nch l → Ev (fun k => cressetref18_Chunks.l0 k (l.drop (16 * j)) ((wantL l).take j)) (wantL l)
  | 0, j, h => by
    have hj : j < nch l := by omega
    have hlen : (l.drop (16 * j)).length = l.length - 16 * j := List.length_drop
    have hn : nch l = (l.length - 1) / 16 + 1 := rfl
    have ht : ((wantL l).take j).length = j := by rw [List.length_take, wantL_len]; omega
    refine Ev.step (f := fun _ => some (wantL l)) (fun k => ?_) (Ev.now _)
    simp only [cressetref18_Chunks.l0]
    rw [if_neg (by rw [hlen]; omega), ht, if_pos (by omega)]
    congr 1
    have hp : piece l j = l.drop (16 * j) := by
      unfold piece
      rw [show top_ l j = l.length by unfold top_; omega, List.take_length]
    have e : (⟨(j : Int), l.drop (16 * j), true⟩ : S65) = chunkAt l j := by
      unfold chunkAt
      rw [hp, show top_ l j = l.length by unfold top_; omega]
      simp
    rw [e]
    have h2 : (wantL l)[j]'(by rw [wantL_len]; exact hj) = chunkAt l j := by simp [wantL]
    rw [← h2, List.take_append_getElem, show j + 1 = (wantL l).length by rw [wantL_len]; omega, List.take_length]
  | d + 1, j, h => by
    have ih := chunks_loop l hl d (j + 1) (by omega)
    have hj : j < nch l := by omega
    have hlen : (l.drop (16 * j)).length = l.length - 16 * j := List.length_drop
    have hn : nch l = (l.length - 1) / 16 + 1 := rfl
    have ht : ((wantL l).take j).length = j := by rw [List.length_take, wantL_len]; omega
    refine Ev.step (f := fun k => cressetref18_Chunks.l0 k (l.drop (16 * (j + 1))) ((wantL l).take (j + 1))) (fun k => ?_) ih
    simp only [cressetref18_Chunks.l0]
    rw [if_pos (by rw [hlen]; omega), if_pos (by rw [hlen]; omega), ht, if_pos (by omega)]
    have hp : piece l j = (l.drop (16 * j)).take 16 := by
      unfold piece
      rw [show top_ l j = 16 * j + 16 by unfold top_; omega, List.drop_take]
      congr 1
      omega
    have e : (⟨(j : Int), (l.drop (16 * j)).take 16, false⟩ : S65) = chunkAt l j := by
      unfold chunkAt
      rw [hp, show ((top_ l j : Int) == (l.length : Int)) = false from beq_eq_false_iff_ne.mpr (by unfold top_; omega)]
    rw [e, List.drop_drop]
    have h2 : (wantL l)[j]'(by rw [wantL_len]; exact hj) = chunkAt l j := by simp [wantL]
    rw [← h2, List.take_append_getElem, show 16 * j + 16 = 16 * (j + 1) by omega]
theorem chunks_ev (l : List S56) (hl : l.length ≤ 65536) : Ev (fun k => cressetref18_Chunks.f k l) (wantL l) := by
  have h := chunks_loop l hl (nch l - 1) 0 (by unfold nch; omega)
  exact h
theorem pairs_loop (l : List S56) (hl : l.length ≤ 65536) : ∀ (d i : Nat), i + d = l.length → Ev (fun k => cressetref03_SamePairs.l0 k l l (i : Int)) true
  | 0, i, h => by
    refine Ev.step (f := fun _ => some true) (fun k => by simp only [cressetref03_SamePairs.l0]; rw [if_neg (by omega)]) ?_
    exact Ev.now _
  | d + 1, i, h => by
    have ih := pairs_loop l hl d (i + 1) (by omega)
    refine Ev.step (fun k => by simp only [cressetref03_SamePairs.l0]; rw [if_pos (by omega), if_pos (by omega), if_pos (by omega), if_neg (by simp)]) ?_
    rw [Lib.wr1 (x := (i : Int) + 1) (by omega) (by omega)]
    exact ih
theorem same_ev (i : Int) (l : List S56) (hl : l.length ≤ 65536) (b : Bool) : Ev (fun k => cressetref03_SameChunk.f k i l b i l b) true := by
  unfold cressetref03_SameChunk.f
  refine Ev.congr (f := _) (fun k => if_pos rfl) ?_
  refine Ev.congr (f := _) (fun k => if_pos (by simp)) ?_
  refine Ev.bind (a := true) ?_ (Ev.now _)
  unfold cressetref03_SamePairs.f
  refine Ev.congr (f := _) (fun k => if_pos rfl) ?_
  exact pairs_loop l hl l.length 0 (by omega)
theorem upto_all {f : Nat → Nat → Option Bool} : ∀ n : Nat, (∀ i, i < n → Ev (fun k => f k i) true) → ∃ K, ∀ k, K ≤ k → ∀ i, i < n → f k i = some true
  | 0, _ => ⟨0, fun _ _ i hi => absurd hi (Nat.not_lt_zero i)⟩
  | n + 1, h => by
    obtain ⟨K, hK⟩ := upto_all n (fun i hi => h i (by omega))
    obtain ⟨K2, hK2⟩ := h n (by omega)
    refine ⟨max K K2, fun k hk i hi => ?_⟩
    rcases Nat.lt_or_ge i n with hl | hl
    · exact hK k (by omega) i hl
    · obtain rfl : i = n := by omega
      exact hK2 k (by omega)
theorem piece_len (l : List S56) (i : Nat) : (piece l i).length ≤ l.length := by
  unfold piece
  simp
  omega
theorem same_all (l : List S56) (hl : l.length ≤ 65536) : ∃ kk, ∀ i : Nat, i < nch l → cressetref03_SameChunk.f kk (i : Int) (piece l i) ((top_ l i : Int) == (l.length : Int)) (i : Int) (piece l i) ((top_ l i : Int) == (l.length : Int)) = some true := by
  obtain ⟨K, hK⟩ := upto_all (f := fun k i => cressetref03_SameChunk.f k (i : Int) (piece l i) ((top_ l i : Int) == (l.length : Int)) (i : Int) (piece l i) ((top_ l i : Int) == (l.length : Int))) (nch l) (fun i _ => same_ev (i : Int) (piece l i) (by have := piece_len l i; omega) _)
  exact ⟨K, hK K (Nat.le_refl _)⟩
end Go.Proofs.Ytkflgkmblebdmaa.Im

set_option linter.unusedVariables false
set_option linter.unusedSimpArgs false
namespace Go.Proofs.Ytkflgkmblebdmaa.Im
open Go.RowKit Go.Shelf Go.Proofs.Ytkflgkmblebdmaa.B Go.Proofs.YtkflgkmblebdmaaW.PrintWords Go.Proofs.YtkflgkmblebdmaaW.PrintLast Go.Proofs.YtkflgkmblebdmaaW.PrintMore Go.Proofs.YtkflgkmblebdmaaW.Mine Go.Proofs.YtkflgkmblebdmaaW.Hp
theorem h87 : Kd.Heap k87 := Kd.heap_iso _ (Kd.heap_pair (Kd.heap_int _) (Kd.heap_pair Kd.heap_string Kd.heap_bool))
theorem h33 : Kd.Heap k33 := Kd.heap_iso _ (Kd.heap_pair Kd.heap_string (Kd.heap_slice 87 h87))
theorem reads33 {w0 w : World} {L : List (Nat × Asn)} {j : Nat} {A : Option Addr} {n : Nat} {xs : List S33} (H : Hp w0 w L) (p : Nat) (hi : L[p]? = some (j, Asn.rd k33 A n xs)) (i : Int) (h0 : 0 ≤ i) (h1 : i < n) :
    ∃ ad A1 c1, A = some ad ∧ w.cell? (ad.add (i.toNat * 2)) = some (.string (rd_T33 xs i).f0) ∧ w.cell? ⟨(ad.add (i.toNat * 2)).block, (ad.add (i.toNat * 2)).off + 1, none⟩ = some (.slice A1 (rd_T33 xs i).f1.length c1) ∧ (rd_T33 xs i).f1.length ≤ c1 ∧ Hp w0 w (L ++ [(j, Asn.rd k87 A1 (rd_T33 xs i).f1.length (rd_T33 xs i).f1)]) := by
  obtain ⟨lab, hall⟩ := H.all
  obtain ⟨ad, c, rfl, _, hK, hc0, _⟩ := Kd.F_get (hall.get hi) z33 i h0 h1
  obtain ⟨A1, c1, rfl, l1, g1⟩ := k33_openF hK
  have hc : ∀ j u, _ → w.cell? (ad.add (i.toNat * 2 + j)) = some u := hc0
  exact ⟨ad, A1, c1, rfl, hc 0 _ rfl, by rw [← add_field _ _ 1 (by omega)]; exact hc 1 _ rfl, l1, H.os, H.tape, H.output, H.size, lab, hall.snoc (A := Asn.rd k87 A1 (rd_T33 xs i).f1.length (rd_T33 xs i).f1) g1⟩
theorem new_err (ts : Int) (h : ts < 0 ∨ 1099511627776 < ts) (w : World) : Calls Try.prog 10 #[.int .i64 ts] w fun e w' => e = .returned (.tuple #[.pointer none, .int .i64 1]) ∧ w = w' := by
  by_cases h0 : ts < 0
  · have c0 : decide (ts < 0) = true := decide_eq_true h0
    go_enter Try.func10, Try.ntmps10
    go_wp2
    go_ret2
    exact ⟨rfl, rfl⟩
  · have c0 : decide (ts < 0) = false := decide_eq_false h0
    have c1 : decide (1099511627776 < ts) = true := decide_eq_true (by omega)
    go_enter Try.func10, Try.ntmps10
    go_wp2
    go_ret2
    exact ⟨rfl, rfl⟩
theorem newR_err (ts : Int) (h : ts < 0 ∨ 1099511627776 < ts) (w : World) : Calls Try.prog 11 #[.int .i64 ts] w fun e w' => e = .returned (.tuple #[.pointer none, .int .i64 1]) ∧ w = w' := by
  by_cases h0 : ts < 0
  · have c0 : decide (ts < 0) = true := decide_eq_true h0
    go_enter Try.func11, Try.ntmps11
    go_wp2
    go_ret2
    exact ⟨rfl, rfl⟩
  · have c0 : decide (ts < 0) = false := decide_eq_false h0
    have c1 : decide (1099511627776 < ts) = true := decide_eq_true (by omega)
    go_enter Try.func11, Try.ntmps11
    go_wp2
    go_ret2
    exact ⟨rfl, rfl⟩
theorem addI_ts (s : S) (key : ByteArray) (l : List S87) : (addI s key l).2.ts = s.ts := by
  unfold addI
  (repeat' split) <;> rfl
theorem chunksR_hp {w0 w : World} {L : List (Nat × Asn)} {i : Nat} {Av : Option Addr} {cv : Nat} {l : List S56} (H : Hp w0 w L) (p : Nat) (hi : L[p]? = some (i, Asn.row k56 56 (.slice Av l.length cv) l)) (hl : l.length ≤ 65536) :
    Calls Try.prog 20 #[.slice Av l.length cv] w fun e w' => ∃ A c, e = .returned (.slice A (wantL l).length c) ∧ (wantL l).length ≤ c ∧ Hp w0 w' (L ++ [(i, Asn.rd k65 A (wantL l).length (wantL l))]) := by
  obtain ⟨lab, hall⟩ := H.all
  have hR := hall.get hi
  obtain ⟨k, hk⟩ := (chunks_ev l hl).rounds
  refine (cressetref18_Chunks.calls k (fun k => lab k = i) Av cv l (wantL l) w (Kd.R_V hR) hk).mono ?_
  rintro e w' ⟨v, rfl, hN, hb⟩
  obtain ⟨A, c, rfl⟩ := Kd.N_slice hN
  exact ⟨A, c, rfl, (Kd.N_reads' hN).2.1, H.share hall i hb (X := Asn.rd k65 A (wantL l).length (wantL l)) (Kd.N_F hN)⟩
def gaT.T10 : Bool × List (List Nat × List Nat) := (true, [([], []), ([], []), ([1], [1]), ([], []), ([3], [3]), ([0, 2, 4], [0, 2, 4]), ([], []), ([], []), ([7], [7]), ([], []), ([9], [9]), ([6, 8, 10, 5], [6, 8, 10]), ([5, 11], [5, 11]), ([12, 11], [12]), ([13], [13]), ([14, 13, 13], [13, 14]), ([13], [13]), ([16, 15, 13], [13, 16]), ([15, 17, 13], [13, 15, 17]), ([13, 18], [13, 18]), ([19, 17], [19]), ([20], [20]), ([21, 20, 20], [20, 21]), ([20], [20]), ([23, 20], [20, 23]), ([24, 20], [20, 24]), ([25, 20], [20, 25]), ([26, 20], [20, 26]), ([22, 27, 20], [20, 22, 27]), ([20, 28], [20, 28])])
def gaT.B10 : List Nat := [0, 0, 2, 0, 8, 31, 0, 0, 128, 0, 512, 2047, 4095, 8191, 16383, 32767, 16383, 131071, 262143, 524287, 1048575, 2097151, 4194303, 2097151, 10485759, 27262975, 60817407, 127926271, 268435455, 536870911]
theorem gaT.tab10 : rtab .any (opsOf Try.f3 10) = gaT.T10 := by kernel_rfl
theorem gaT.bits10 : waitsOk gaT.T10.2 gaT.B10 = true := by kernel_rfl
set_option maxHeartbeats 16000000 in
set_option maxRecDepth 100000 in
theorem gathers_go (ts : Int) (A : Option Addr) (c : Nat) (ps : List S33) (stop : Int) (w : World) (hC : Kd.C k33 w A ps.length ps) (hc : ps.length ≤ c) (hs : ∀ x ∈ ps, x.f1.length ≤ 4398046511104) :
    Calls Try.prog 3 #[.int .i64 ts, .slice A ps.length c, .int .i64 stop] w fun e w' => e = .returned (.bool true) ∧ Below w.heap.size w w' := by
  have hmx : ps.length ≤ 9223372036854775807 := hC.2.1
  by_cases ht : ts < 0 ∨ 1099511627776 < ts
  · clear hC
    go_enter Try.func3, Try.ntmps3
    go_wp2_with (first
      | (go_at_call 10; refine (new_err ts ht _).mono ?_; rintro e w1 ⟨rfl, rfl⟩)
      | (go_at_call 11; refine (newR_err ts ht _).mono ?_; rintro e w1 ⟨rfl, rfl⟩)
      | (go_at_call 12; refine (begun_calls _).mono ?_; rintro e w3 ⟨rfl, hb3⟩))
    go_ret
    exact ⟨rfl, hb3⟩
  have h0 : 0 ≤ ts := by omega
  have h1 : ts ≤ 1099511627776 := by omega
  have H := (Hp.start w).came h33 0 rfl hC
  have HS := Aside0.mk hs
  have HT := Aside0.mk ht
  clear hs hC ht
  go_enter Try.func3, Try.ntmps3
  go_wp2_with (first
    | (go_at_call 10; refine (H.make 1 (new_calls ts h0 h1) (fun _ _ => trivial)).mono ?_; rintro e w1 ⟨r, rfl, H1⟩; obtain ⟨b, H2⟩ := H1.open_ 2 rfl; obtain rfl := H2.fact 2 rfl (fun S h => h.1); have H3 := H2.imp 2 (A' := isImg b ⟨ts, ⟨#[]⟩, []⟩) rfl (fun S h => h.2); clear H1 H2)
    | (go_at_call 11; refine (H3.make 2 (newR_calls ts h0 h1) (fun _ _ => trivial)).mono ?_; rintro e w2 ⟨r2, rfl, H4⟩; obtain ⟨g, H5⟩ := H4.open_ 3 rfl; obtain rfl := H5.fact 3 rfl (fun S h => h.1); have H6 := H5.imp 3 (A' := isRef g ⟨ts, ⟨#[]⟩, false, []⟩) rfl (fun S h => h.2); clear H4 H5)
    | (go_at_call 12; refine (begun_calls _).mono ?_; rintro e w3 ⟨rfl, hb3⟩; have H7 := H6.same hb3; clear hb3 H6 H3))
  go_loopg [41] ps.length (fun gk v41 wr => ∃ (i : Nat) (s : S) (r : SR), v41 = .int .i64 i ∧ i ≤ ps.length ∧ ps.length - i ≤ gk ∧ Aside0 (Rel s r ∧ s.ts = ts) ∧ Aside0 (Hp w wr [(0, Asn.old w (fun _ => False)), (0, Asn.rd k33 A ps.length ps), (1, isImg b s), (2, isRef g r)]))
  case atStart => exact ⟨0, ⟨ts, ⟨#[]⟩, []⟩, ⟨ts, ⟨#[]⟩, false, []⟩, rfl, Nat.zero_le _, by omega, ⟨rel_new ts, rfl⟩, ⟨H7⟩⟩
  case round =>
    clear H7
    obtain ⟨i, s, r, rfl, hil, hgk, HK, HO⟩ := hrel
    by_cases hlt : i < ps.length
    · have hltz : (i : Int) < (ps.length : Int) := by omega
      obtain ⟨ad, Ax, cx, e, x0, x1, lx, HQ⟩ := reads33 HO.out 1 rfl (i : Int) (by omega) hltz
      cases e
      have hxl : (rd_T33 ps (i : Int)).f1.length ≤ 4398046511104 := HS.out _ (Sl.getD_in _ (by simpa using hlt))
      have HI := Aside0.mk HQ
      have HGK := Aside0.mk hgk
      clear HO HQ hgk
      rw [Int.toNat_natCast] at x0 x1
      generalize rd_T33 ps (i : Int) = x at x0 x1 lx hxl HI
      obtain ⟨ka, hka⟩ := (Lib.check_ev x.f1).rounds
      obtain ⟨kb, hkb⟩ := Lib.checkR_ev x.f1
      obtain ⟨kc, hkc⟩ := Lib.atR_ev x.f1 r.ts (by omega)
      have hrel := rel_add HK.out.1 x.f0 x.f1
      have hts := (addI_ts s x.f0 x.f1).trans HK.out.2
      have hadd := addO_eq ka s x.f0 x.f1 hka (by omega)
      obtain ⟨e1, s', hI⟩ : ∃ e1 s', addI s x.f0 x.f1 = (e1, s') := ⟨_, _, rfl⟩
      obtain ⟨e2, r', hR⟩ : ∃ e2 r', addR r x.f0 x.f1 = (e2, r') := ⟨_, _, rfl⟩
      rw [hI] at hadd hrel hts
      rw [hR] at hrel
      obtain ⟨he, hrel⟩ := hrel
      dsimp only at he hrel hts
      subst he
      have HA := Aside0.mk (add_calls ka b s s' x.f0 Ax cx x.f1 e1 lx hadd)
      have HB := Aside0.mk (addR_tr (max kb kc) g r r' x.f0 Ax cx x.f1 e1 lx (hkb _ (Nat.le_max_left _ _)) (hkc _ (Nat.le_max_right _ _)) hR)
      have HN := Aside0.mk hrel
      have HM := Aside0.mk hts
      clear hI hR hadd hrel hts hka hkb hkc
      go_wp2_with (first
        | ((with_reducible refine gate_dst (N := 12) rfl ?_); refine Hp.at_box HI.out 7 ?hg (N := 12) ?hd (cs := #[.string ⟨#[]⟩, .slice none 0 0]) (t := 33) ?hr ?_; (case hd => rfl); (case hg => rfl); (case hr => first | (go_simp; done) | (go_simp; rfl)); intro gx w3 H3; clear HI x0 x1; have y0 := H3.cell 5 rfl 0 (v := .string ⟨#[]⟩) rfl; have y1 := H3.cell 5 rfl 1 (v := .slice none 0 0) rfl; have u0 := H3.unfrozen 5 rfl 0; have u1 := H3.unfrozen 5 rfl 1)
        | ((with_reducible refine gate_store (t := 33) (p := 12) rfl ?_); refine Hp.at_sets H3 5 rfl rfl ?hg (T := 33) (z := 12) (x := ?vo) ?ho ?hn 0 [.string x.f0, .slice Ax x.f1.length cx] ?hr (cs' := #[.string x.f0, .slice Ax x.f1.length cx]) ?hc ?_; (case ho => rfl); (case hg => rfl); (case hn => rfl); (case hr => first | (go_simp; done) | (go_simp; rfl)); (case hc => rfl); clear y0 y1 u0 u1; intro w4 H4))
      have HE : Hp w w4 [(0, Asn.old w (fun _ => False)), (0, Asn.rd k33 (some ad) ps.length ps), (1, isImg b s), (2, isRef g r), (0, Asn.rd k87 Ax x.f1.length x.f1), (7, Asn.box gx #[.string x.f0, .slice Ax x.f1.length cx] 33)] := H4
      clear H3 H4
      have HD := HE.drew
      refine start_ (n := 30) (S := fun w' => w'.cell? ⟨gx, 0, none⟩ = some (.string x.f0) ∧ w'.cell? ⟨gx, 1, none⟩ = some (.slice Ax x.f1.length cx)) (ds := []) #[false, false, false, false, false, false, false, false, false, false, false, false, false, false, false, false, false, false, false, false, false, false, false, false, false, false, false, false, false, false] (by kernel_rfl) rfl rfl ⟨(HD.cell 5 rfl 0 (v := .string x.f0) rfl), (HD.cell 5 rfl 1 (v := .slice Ax x.f1.length cx) rfl)⟩ (fun hHeld => ?_); refine with_tabW gaT.tab10 gaT.bits10 (fun HT_ HW_ => ?_)
      refine pure_ (i := 0) (N := some 45) (v := ?_) (a' := ?_) #[true, false, false, false, false, false, false, false, false, false, false, false, false, false, false, false, false, false, false, false, false, false, false, false, false, false, false, false, false, false] rfl rfl (any_of HT_.out (by kernel_rfl)) (fun _ _ _ h => h) (Or.inl ⟨by rfl, ?_⟩) ?_ ?_
      rotate_left
      · intro w'
        go_simp
        with_reducible rfl
      rotate_left
      · simp only [Act.put, List.setIfInBounds_toArray, List.set_cons_zero, List.set_cons_succ, i64_w, i32_w]
        rfl
      refine pure_ (i := 1) (N := some 46) (v := ?_) (a' := ?_) #[true, true, false, false, false, false, false, false, false, false, false, false, false, false, false, false, false, false, false, false, false, false, false, false, false, false, false, false, false, false] rfl rfl (any_of HT_.out (by kernel_rfl)) (fun _ _ _ h => h) (Or.inl ⟨by rfl, ?_⟩) ?_ ?_
      rotate_left
      · intro w'
        go_simp
        with_reducible rfl
      rotate_left
      · simp only [Act.put, List.setIfInBounds_toArray, List.set_cons_zero, List.set_cons_succ, i64_w, i32_w]
        rfl
      refine pure_ (i := 3) (N := some 48) (v := ?_) (a' := ?_) #[true, true, false, true, false, false, false, false, false, false, false, false, false, false, false, false, false, false, false, false, false, false, false, false, false, false, false, false, false, false] rfl rfl (any_of HT_.out (by kernel_rfl)) (fun _ _ _ h => h) (Or.inl ⟨by rfl, ?_⟩) ?_ ?_
      rotate_left
      · intro w'
        go_simp
        with_reducible rfl
      rotate_left
      · simp only [Act.put, List.setIfInBounds_toArray, List.set_cons_zero, List.set_cons_succ, i64_w, i32_w]
        rfl
      refine pure_ (i := 6) (N := some 51) (v := ?_) (a' := ?_) #[true, true, false, true, false, false, true, false, false, false, false, false, false, false, false, false, false, false, false, false, false, false, false, false, false, false, false, false, false, false] rfl rfl (any_of HT_.out (by kernel_rfl)) (fun _ _ _ h => h) (Or.inl ⟨by rfl, ?_⟩) ?_ ?_
      rotate_left
      · intro w'
        go_simp
        with_reducible rfl
      rotate_left
      · simp only [Act.put, List.setIfInBounds_toArray, List.set_cons_zero, List.set_cons_succ, i64_w, i32_w]
        rfl
      refine pure_ (i := 7) (N := some 52) (v := ?_) (a' := ?_) #[true, true, false, true, false, false, true, true, false, false, false, false, false, false, false, false, false, false, false, false, false, false, false, false, false, false, false, false, false, false] rfl rfl (any_of HT_.out (by kernel_rfl)) (fun _ _ _ h => h) (Or.inl ⟨by rfl, ?_⟩) ?_ ?_
      rotate_left
      · intro w'
        go_simp
        with_reducible rfl
      rotate_left
      · simp only [Act.put, List.setIfInBounds_toArray, List.set_cons_zero, List.set_cons_succ, i64_w, i32_w]
        rfl
      refine pure_ (i := 9) (N := some 54) (v := ?_) (a' := ?_) #[true, true, false, true, false, false, true, true, false, true, false, false, false, false, false, false, false, false, false, false, false, false, false, false, false, false, false, false, false, false] rfl rfl (any_of HT_.out (by kernel_rfl)) (fun _ _ _ h => h) (Or.inl ⟨by rfl, ?_⟩) ?_ ?_
      rotate_left
      · intro w'
        go_simp
        with_reducible rfl
      rotate_left
      · simp only [Act.put, List.setIfInBounds_toArray, List.set_cons_zero, List.set_cons_succ, i64_w, i32_w]
        rfl
      refine take_ (i := 2) (N := some 47) (v := ?_) (a' := ?_) #[true, true, true, true, false, false, true, true, false, true, false, false, false, false, false, false, false, false, false, false, false, false, false, false, false, false, false, false, false, false] rfl rfl (take_ofW HT_.out HW_.out (by kernel_rfl)) (fun _ _ _ h => h) (Or.inl ⟨by rfl, ?_⟩) hHeld ?_ ?_
      rotate_left
      · rintro w' ⟨s0, s1⟩
        go_simp
        with_reducible rfl
      rotate_left
      · simp only [Act.put, List.setIfInBounds_toArray, List.set_cons_zero, List.set_cons_succ, i64_w, i32_w]
        rfl
      refine take_ (i := 4) (N := some 49) (v := ?_) (a' := ?_) #[true, true, true, true, true, false, true, true, false, true, false, false, false, false, false, false, false, false, false, false, false, false, false, false, false, false, false, false, false, false] rfl rfl (take_ofW HT_.out HW_.out (by kernel_rfl)) (fun _ _ _ h => h) (Or.inl ⟨by rfl, ?_⟩) hHeld ?_ ?_
      rotate_left
      · rintro w' ⟨s0, s1⟩
        go_simp
        with_reducible rfl
      rotate_left
      · simp only [Act.put, List.setIfInBounds_toArray, List.set_cons_zero, List.set_cons_succ, i64_w, i32_w]
        rfl
      refine take_ (i := 8) (N := some 53) (v := ?_) (a' := ?_) #[true, true, true, true, true, false, true, true, true, true, false, false, false, false, false, false, false, false, false, false, false, false, false, false, false, false, false, false, false, false] rfl rfl (take_ofW HT_.out HW_.out (by kernel_rfl)) (fun _ _ _ h => h) (Or.inl ⟨by rfl, ?_⟩) hHeld ?_ ?_
      rotate_left
      · rintro w' ⟨s0, s1⟩
        go_simp
        with_reducible rfl
      rotate_left
      · simp only [Act.put, List.setIfInBounds_toArray, List.set_cons_zero, List.set_cons_succ, i64_w, i32_w]
        rfl
      refine take_ (i := 10) (N := some 55) (v := ?_) (a' := ?_) #[true, true, true, true, true, false, true, true, true, true, true, false, false, false, false, false, false, false, false, false, false, false, false, false, false, false, false, false, false, false] rfl rfl (take_ofW HT_.out HW_.out (by kernel_rfl)) (fun _ _ _ h => h) (Or.inl ⟨by rfl, ?_⟩) hHeld ?_ ?_
      rotate_left
      · rintro w' ⟨s0, s1⟩
        go_simp
        with_reducible rfl
      rotate_left
      · simp only [Act.put, List.setIfInBounds_toArray, List.set_cons_zero, List.set_cons_succ, i64_w, i32_w]
        rfl
      refine one_ (i := 5) (N := some 50) #[true, true, true, true, true, true, true, true, true, true, true, false, false, false, false, false, false, false, false, false, false, false, false, false, false, false, false, false, false, false] rfl rfl (one_of HT_.out (by kernel_rfl)) (by decide) (fun Kx_ hKx_ => ?_)
      refine goes_ Try.func13 (by kernel_rfl) rfl #[.pointer (some ⟨b, 0, none⟩), .string x.f0, .slice Ax x.f1.length cx] (by rfl) rfl rfl (by (try simp only [List.map_toArray, List.map_cons, List.map_nil]); first | done | rfl) ?_
      refine (HD.call HA.out 2 rfl rfl (fun lab h => (Asn.rd k87 Ax x.f1.length x.f1).mono (h.get (p := 4) rfl) (fun k _ hk => by have h2 : lab k = 0 := hk; omega))).mono ?_
      rintro e w9 ⟨r9, rfl, H9'⟩
      obtain rfl := H9'.fact 2 rfl (fun _ h => h.1)
      have H9 := H9'.imp (A' := isImg b s') 2 rfl (fun _ h => h.2)
      clear H9'
      refine ⟨_, rfl, ?_⟩
      refine hKx_.out _ _ ⟨(H9.cell 5 rfl 0 (v := .string x.f0) rfl), (H9.cell 5 rfl 1 (v := .slice Ax x.f1.length cx) rfl)⟩ (fun hHeld => ?_)
      clear hKx_ Kx_
      refine norm_ (a' := ?_) ?_ ?_
      rotate_left
      · show Act.put _ (some 50) _ = _
        simp only [Act.put, List.setIfInBounds_toArray, List.set_cons_zero, List.set_cons_succ, i64_w, i32_w]
        rfl
      refine one_ (i := 11) (N := some 56) #[true, true, true, true, true, true, true, true, true, true, true, true, false, false, false, false, false, false, false, false, false, false, false, false, false, false, false, false, false, false] rfl rfl (one_of HT_.out (by kernel_rfl)) (by decide) (fun Kx_ hKx_ => ?_)
      refine goes_ Try.func14 (by kernel_rfl) rfl #[.pointer (some ⟨g, 0, none⟩), .string x.f0, .slice Ax x.f1.length cx] (by rfl) rfl rfl (by (try simp only [List.map_toArray, List.map_cons, List.map_nil]); first | done | rfl) ?_
      refine (H9.call HB.out 3 rfl rfl (fun lab h => (Asn.rd k87 Ax x.f1.length x.f1).mono (h.get (p := 4) rfl) (fun k _ hk => by have h2 : lab k = 0 := hk; omega))).mono ?_
      rintro e w10 ⟨r10, rfl, H10'⟩
      obtain rfl := H10'.fact 3 rfl (fun _ h => h.1)
      have HF := H10'.imp (A' := isRef g r') 3 rfl (fun _ h => h.2)
      clear H10'
      have H10 : Hp w w10 [(0, Asn.old w (fun _ => False)), (0, Asn.rd k33 (some ad) ps.length ps), (1, isImg b s'), (2, isRef g r'), (0, Asn.rd k87 Ax x.f1.length x.f1), (7, Asn.box gx #[.string x.f0, .slice Ax x.f1.length cx] 33)] := HF
      clear HF
      obtain ⟨v1, Hv1⟩ := H10.open_ 2 rfl
      obtain ⟨v2, Hv2⟩ := Hv1.open_ 3 rfl
      have HV := (Hv2.split 2 8 rfl rfl (by decide)).split 3 9 rfl rfl (by decide)
      clear Hv1 Hv2
      obtain ⟨Av1, cv1, rfl⟩ := HV.fact 6 rfl (fun S h => Kd.R_slice h)
      obtain ⟨Av, cv, rfl⟩ := HV.fact 7 rfl (fun S h => Kd.R_slice h)
      have m1 := HV.cell 2 rfl 1 (v := .string s'.fr) rfl
      rw [HN.out.2.2.1] at m1
      have m2 := HV.cell 2 rfl 2 (v := .slice Av1 s'.l.length cv1) rfl
      rw [HN.out.2.1] at m2
      have m3 := HV.cell 2 rfl 3 (v := .bool true) rfl
      have n1 := HV.cell 3 rfl 1 (v := .string r'.last) rfl
      have n2 := HV.cell 3 rfl 2 (v := .bool r'.any) rfl
      have n3 := HV.cell 3 rfl 3 (v := .slice Av r'.l.length cv) rfl
      refine ⟨_, rfl, ?_⟩
      refine hKx_.out _ _ ⟨(H10.cell 5 rfl 0 (v := .string x.f0) rfl), (H10.cell 5 rfl 1 (v := .slice Ax x.f1.length cx) rfl)⟩ (fun hHeld => ?_)
      clear hKx_ Kx_
      refine norm_ (a' := ?_) ?_ ?_
      rotate_left
      · show Act.put _ (some 56) _ = _
        simp only [Act.put, List.setIfInBounds_toArray, List.set_cons_zero, List.set_cons_succ, i64_w, i32_w]
        rfl
      refine change_ (S' := fun w' => w'.cell? ⟨gx, 0, none⟩ = some (.string x.f0) ∧ w'.cell? ⟨gx, 1, none⟩ = some (.slice Ax x.f1.length cx) ∧ w'.cell? ⟨g, 3, none⟩ = some (.slice Av r'.l.length cv)) (fun w' h => ⟨h.1, h.2.1⟩) ⟨(H10.cell 5 rfl 0 (v := .string x.f0) rfl), (H10.cell 5 rfl 1 (v := .slice Ax x.f1.length cx) rfl), n3⟩ (fun hHeld => ?_)
      refine pure_ (i := 12) (N := some 57) (v := ?_) (a' := ?_) #[true, true, true, true, true, true, true, true, true, true, true, true, true, false, false, false, false, false, false, false, false, false, false, false, false, false, false, false, false, false] rfl rfl (any_of HT_.out (by kernel_rfl)) (fun _ _ _ h => h) (Or.inl ⟨by rfl, ?_⟩) ?_ ?_
      rotate_left
      · intro w'
        go_simp
        with_reducible rfl
      rotate_left
      · simp only [Act.put, List.setIfInBounds_toArray, List.set_cons_zero, List.set_cons_succ, i64_w, i32_w]
        rfl
      refine pure_ (i := 13) (N := some 58) (v := ?_) (a' := ?_) #[true, true, true, true, true, true, true, true, true, true, true, true, true, true, false, false, false, false, false, false, false, false, false, false, false, false, false, false, false, false] rfl rfl (any_of HT_.out (by kernel_rfl)) (fun _ _ _ h => h) (Or.inl ⟨by rfl, ?_⟩) ?_ ?_
      rotate_left
      · intro w'
        go_simp
        with_reducible rfl
      rotate_left
      · simp only [Act.put, List.setIfInBounds_toArray, List.set_cons_zero, List.set_cons_succ, i64_w, i32_w]
        rfl
      refine pure_ (i := 14) (N := some 59) (v := ?_) (a' := ?_) #[true, true, true, true, true, true, true, true, true, true, true, true, true, true, true, false, false, false, false, false, false, false, false, false, false, false, false, false, false, false] rfl rfl (any_of HT_.out (by kernel_rfl)) (fun _ _ _ h => h) (Or.inl ⟨by rfl, ?_⟩) ?_ ?_
      rotate_left
      · intro w'
        go_simp
        with_reducible rfl
      rotate_left
      · simp only [Act.put, List.setIfInBounds_toArray, List.set_cons_zero, List.set_cons_succ, i64_w, i32_w]
        rfl
      refine pure_ (i := 16) (N := some 61) (v := ?_) (a' := ?_) #[true, true, true, true, true, true, true, true, true, true, true, true, true, true, true, false, true, false, false, false, false, false, false, false, false, false, false, false, false, false] rfl rfl (any_of HT_.out (by kernel_rfl)) (fun _ _ _ h => h) (Or.inl ⟨by rfl, ?_⟩) ?_ ?_
      rotate_left
      · intro w'
        go_simp
        with_reducible rfl
      rotate_left
      · simp only [Act.put, List.setIfInBounds_toArray, List.set_cons_zero, List.set_cons_succ, i64_w, i32_w]
        rfl
      refine one_ (i := 15) (N := some 60) #[true, true, true, true, true, true, true, true, true, true, true, true, true, true, true, true, true, false, false, false, false, false, false, false, false, false, false, false, false, false] rfl rfl (one_of HT_.out (by kernel_rfl)) (by decide) (fun Kx_ hKx_ => ?_)
      refine goes_ Try.func15 (by kernel_rfl) rfl #[.pointer (some ⟨b, 0, none⟩)] (by rfl) rfl rfl (by (try simp only [List.map_toArray, List.map_cons, List.map_nil]); first | done | rfl) ?_
      refine (from_calls b _ _ m3 m1).mono ?_
      rintro e w11 ⟨rfl, rfl⟩
      refine ⟨_, rfl, ?_⟩
      refine hKx_.out _ _ ⟨hHeld.1, hHeld.2.1, hHeld.2.2⟩ (fun hHeld => ?_)
      clear hKx_ Kx_
      refine norm_ (a' := ?_) ?_ ?_
      rotate_left
      · show Act.put _ (some 60) _ = _
        simp only [Act.put, List.setIfInBounds_toArray, List.set_cons_zero, List.set_cons_succ, i64_w, i32_w]
        rfl
      refine one_ (i := 17) (N := some 62) #[true, true, true, true, true, true, true, true, true, true, true, true, true, true, true, true, true, true, false, false, false, false, false, false, false, false, false, false, false, false] rfl rfl (one_of HT_.out (by kernel_rfl)) (by decide) (fun Kx_ hKx_ => ?_)
      refine goes_ Try.func16 (by kernel_rfl) rfl #[.pointer (some ⟨g, 0, none⟩)] (by rfl) rfl rfl (by (try simp only [List.map_toArray, List.map_cons, List.map_nil]); first | done | rfl) ?_
      refine (fromR_calls g _ r' n1 n2 HN.out.2.2.2.1).mono ?_
      rintro e w12 ⟨rfl, rfl⟩
      refine ⟨_, rfl, ?_⟩
      refine hKx_.out _ _ ⟨hHeld.1, hHeld.2.1, hHeld.2.2⟩ (fun hHeld => ?_)
      clear hKx_ Kx_
      refine norm_ (a' := ?_) ?_ ?_
      rotate_left
      · show Act.put _ (some 62) _ = _
        simp only [Act.put, List.setIfInBounds_toArray, List.set_cons_zero, List.set_cons_succ, i64_w, i32_w]
        rfl
      refine pure_ (i := 18) (N := some 63) (v := ?_) (a' := ?_) #[true, true, true, true, true, true, true, true, true, true, true, true, true, true, true, true, true, true, true, false, false, false, false, false, false, false, false, false, false, false] rfl rfl (any_of HT_.out (by kernel_rfl)) (fun _ _ _ h => h) (Or.inl ⟨by rfl, ?_⟩) ?_ ?_
      rotate_left
      · intro w'
        go_simp
        with_reducible rfl
      rotate_left
      · simp only [Act.put, List.setIfInBounds_toArray, List.set_cons_zero, List.set_cons_succ, i64_w, i32_w]
        rfl
      refine pure_ (i := 19) (N := some 64) (v := ?_) (a' := ?_) #[true, true, true, true, true, true, true, true, true, true, true, true, true, true, true, true, true, true, true, true, false, false, false, false, false, false, false, false, false, false] rfl rfl (any_of HT_.out (by kernel_rfl)) (fun _ _ _ h => h) (Or.inl ⟨by rfl, ?_⟩) ?_ ?_
      rotate_left
      · intro w'
        go_simp
        with_reducible rfl
      rotate_left
      · simp only [Act.put, List.setIfInBounds_toArray, List.set_cons_zero, List.set_cons_succ, i64_w, i32_w]
        rfl
      refine pure_ (i := 20) (N := some 65) (v := ?_) (a' := ?_) #[true, true, true, true, true, true, true, true, true, true, true, true, true, true, true, true, true, true, true, true, true, false, false, false, false, false, false, false, false, false] rfl rfl (any_of HT_.out (by kernel_rfl)) (fun _ _ _ h => h) (Or.inl ⟨by rfl, ?_⟩) ?_ ?_
      rotate_left
      · intro w'
        go_simp
        with_reducible rfl
      rotate_left
      · simp only [Act.put, List.setIfInBounds_toArray, List.set_cons_zero, List.set_cons_succ, i64_w, i32_w]
        rfl
      refine pure_ (i := 21) (N := some 66) (v := ?_) (a' := ?_) #[true, true, true, true, true, true, true, true, true, true, true, true, true, true, true, true, true, true, true, true, true, true, false, false, false, false, false, false, false, false] rfl rfl (any_of HT_.out (by kernel_rfl)) (fun _ _ _ h => h) (Or.inl ⟨by rfl, ?_⟩) ?_ ?_
      rotate_left
      · intro w'
        go_simp
        with_reducible rfl
      rotate_left
      · simp only [Act.put, List.setIfInBounds_toArray, List.set_cons_zero, List.set_cons_succ, i64_w, i32_w]
        rfl
      refine pure_ (i := 23) (N := some 68) (v := ?_) (a' := ?_) #[true, true, true, true, true, true, true, true, true, true, true, true, true, true, true, true, true, true, true, true, true, true, false, true, false, false, false, false, false, false] rfl rfl (any_of HT_.out (by kernel_rfl)) (fun _ _ _ h => h) (Or.inl ⟨by rfl, ?_⟩) ?_ ?_
      rotate_left
      · intro w'
        go_simp
        with_reducible rfl
      rotate_left
      · simp only [Act.put, List.setIfInBounds_toArray, List.set_cons_zero, List.set_cons_succ, i64_w, i32_w]
        rfl
      refine pure_ (i := 24) (N := some 69) (v := ?_) (a' := ?_) #[true, true, true, true, true, true, true, true, true, true, true, true, true, true, true, true, true, true, true, true, true, true, false, true, true, false, false, false, false, false] rfl rfl (any_of HT_.out (by kernel_rfl)) (fun _ _ _ h => h) (Or.inl ⟨by rfl, ?_⟩) ?_ ?_
      rotate_left
      · intro w'
        go_simp
        with_reducible rfl
      rotate_left
      · simp only [Act.put, List.setIfInBounds_toArray, List.set_cons_zero, List.set_cons_succ, i64_w, i32_w]
        rfl
      refine pure_ (i := 25) (N := some 70) (v := ?_) (a' := ?_) #[true, true, true, true, true, true, true, true, true, true, true, true, true, true, true, true, true, true, true, true, true, true, false, true, true, true, false, false, false, false] rfl rfl (any_of HT_.out (by kernel_rfl)) (fun _ _ _ h => h) (Or.inl ⟨by rfl, ?_⟩) ?_ ?_
      rotate_left
      · intro w'
        go_simp
        with_reducible rfl
      rotate_left
      · simp only [Act.put, List.setIfInBounds_toArray, List.set_cons_zero, List.set_cons_succ, i64_w, i32_w]
        rfl
      refine take_ (i := 26) (N := some 71) (v := ?_) (a' := ?_) #[true, true, true, true, true, true, true, true, true, true, true, true, true, true, true, true, true, true, true, true, true, true, false, true, true, true, true, false, false, false] rfl rfl (take_ofW HT_.out HW_.out (by kernel_rfl)) (fun _ _ _ h => h) (Or.inl ⟨by rfl, ?_⟩) hHeld ?_ ?_
      rotate_left
      · rintro w' ⟨s0, s1, s2⟩
        go_simp
        with_reducible rfl
      rotate_left
      · simp only [Act.put, List.setIfInBounds_toArray, List.set_cons_zero, List.set_cons_succ, i64_w, i32_w]
        rfl
      refine pure_ (i := 27) (N := some 72) (v := ?_) (a' := ?_) #[true, true, true, true, true, true, true, true, true, true, true, true, true, true, true, true, true, true, true, true, true, true, false, true, true, true, true, true, false, false] rfl rfl (any_of HT_.out (by kernel_rfl)) (fun _ _ _ h => h) (Or.inl ⟨by rfl, ?_⟩) ?_ ?_
      rotate_left
      · intro w'
        go_simp
        with_reducible rfl
      rotate_left
      · simp only [Act.put, List.setIfInBounds_toArray, List.set_cons_zero, List.set_cons_succ, i64_w, i32_w]
        rfl
      refine one_ (i := 22) (N := some 67) #[true, true, true, true, true, true, true, true, true, true, true, true, true, true, true, true, true, true, true, true, true, true, true, true, true, true, true, true, false, false] rfl rfl (one_of HT_.out (by kernel_rfl)) (by decide) (fun Kx_ hKx_ => ?_)
      refine goes_ Try.func17 (by kernel_rfl) rfl #[.pointer (some ⟨b, 0, none⟩)] (by rfl) rfl rfl (by (try simp only [List.map_toArray, List.map_cons, List.map_nil]); first | done | rfl) ?_
      refine (len_calls b _ _ _ _ m3 m2).mono ?_
      rintro e w13 ⟨rfl, rfl⟩
      refine ⟨_, rfl, ?_⟩
      refine hKx_.out _ _ ⟨hHeld.1, hHeld.2.1, hHeld.2.2⟩ (fun hHeld => ?_)
      clear hKx_ Kx_
      refine norm_ (a' := ?_) ?_ ?_
      rotate_left
      · show Act.put _ (some 67) _ = _
        simp only [Act.put, List.setIfInBounds_toArray, List.set_cons_zero, List.set_cons_succ, i64_w, i32_w]
        rfl
      refine pure_ (i := 28) (N := some 73) (v := ?_) (a' := ?_) #[true, true, true, true, true, true, true, true, true, true, true, true, true, true, true, true, true, true, true, true, true, true, true, true, true, true, true, true, true, false] rfl rfl (any_of HT_.out (by kernel_rfl)) (fun _ _ _ h => h) (Or.inl ⟨by rfl, ?_⟩) ?_ ?_
      rotate_left
      · intro w'
        go_simp
        with_reducible rfl
      rotate_left
      · simp only [Act.put, List.setIfInBounds_toArray, List.set_cons_zero, List.set_cons_succ, i64_w, i32_w]
        rfl
      refine pure_ (i := 29) (N := some 74) (v := ?_) (a' := ?_) #[true, true, true, true, true, true, true, true, true, true, true, true, true, true, true, true, true, true, true, true, true, true, true, true, true, true, true, true, true, true] rfl rfl (any_of HT_.out (by kernel_rfl)) (fun _ _ _ h => h) (Or.inl ⟨by rfl, ?_⟩) ?_ ?_
      rotate_left
      · intro w'
        go_simp
        with_reducible rfl
      rotate_left
      · simp only [Act.put, List.setIfInBounds_toArray, List.set_cons_zero, List.set_cons_succ, i64_w, i32_w]
        rfl
      refine done_ (done_of HT_.out (by kernel_rfl)) ?_
      clear HT_ HW_ hHeld HE HD H9 HV
      go_wp2
      go_roundg (ps.length - (i + 1))
      case measure => have := HGK.out; omega
      case rel => exact ⟨i + 1, s', r', by go_num, by omega, by omega, ⟨HN.out, HM.out⟩, ⟨H10.keep [0, 1, 2, 3]⟩⟩
    · have hltz : ¬ (i : Int) < (ps.length : Int) := by omega
      obtain ⟨s1, s2, l⟩ := s
      obtain ⟨r1, r2, r3, r4⟩ := r
      obtain ⟨⟨e1, e2, e3, _, e5⟩, e6⟩ := HK.out
      dsimp only at e1 e2 e3 e5 e6
      subst e6 e2
      have H8 := HO.out
      obtain ⟨v, H9⟩ := H8.open_ 3 rfl
      have H10 : Hp w wr [(0, Asn.old w (fun _ => False)), (0, Asn.rd k33 A ps.length ps), (1, isImg b ⟨s1, s2, l⟩), (2, Asn.box g #[.int .i64 r1, .string r2, .bool r3, v] 40), (6, Asn.row k56 56 v l)] := H9.split 3 6 rfl rfl (by decide)
      obtain ⟨Av, cv, rfl⟩ := H10.fact 4 rfl (fun S h => Kd.R_slice h)
      have hcv := (H10.row_C 4 rfl).2.1
      have z3 := H10.cell 3 rfl 3 (v := .slice Av l.length cv) rfl
      obtain ⟨kk, hkk⟩ : ∃ kk, ∀ i : Nat, i < nch l → cressetref03_SameChunk.f kk (i : Int) (piece l i) ((top_ l i : Int) == (l.length : Int)) (i : Int) (piece l i) ((top_ l i : Int) == (l.length : Int)) = some true := same_all l e5
      clear HO H8 H9 HK hil hgk
      go_wp2_with (first
        | (go_at_call 18; refine (H10.call (told_tr b ⟨s1, s2, l⟩ Av cv stop hcv e5) 2 rfl rfl (fun lab h => (Asn.rd k56 Av _ _).mono (row_rd (h.get (p := 4) rfl)) (fun k _ hk => by have h2 : lab k = 6 := hk; omega))).mono ?_; rintro e w5 ⟨r5, rfl, H11'⟩; obtain rfl := H11'.fact 2 rfl (fun _ h => h.1); have H11 := H11'.imp (A' := isImg b ⟨s1, s2, l⟩) 2 rfl (fun _ h => h.2); clear H11' H10; have z5 := H11.cell 3 rfl 3 (v := .slice Av l.length cv) rfl)
        | (go_at_call 20; refine (chunksR_hp H11 4 rfl e5).mono ?_; rintro e w6 ⟨A6, c6, rfl, hc6, H12⟩; clear H11)
        | (go_at_call 19; refine (H12.call (lawchunks_tr kk b ⟨s1, s2, l⟩ (wantL l) A6 c6 hc6 e5 (wantL_len l) (wantL_at l) hkk) 2 rfl rfl (fun lab h => (Asn.rd k65 A6 _ _).mono (h.get (p := 5) rfl) (fun k _ hk => by have h2 : lab k = 6 := hk; omega))).mono ?_; rintro e w7 ⟨r7, rfl, H13'⟩; obtain rfl := H13'.fact 2 rfl (fun _ h => h.1); have H13 := H13'.imp (A' := isImg b ⟨s1, s2, l⟩) 2 rfl (fun _ h => h.2); clear H13' H12; obtain ⟨v7, H14⟩ := H13.open_ 2 rfl; have H15 := H14.split 2 9 rfl rfl (by decide); have z0 := H15.cell 2 rfl 0 (v := .int .i64 s1) rfl; have z9 := H15.cell 2 rfl 3 (v := .bool true) rfl)
        | (go_at_call 21; refine (ts_calls b _ _ z9 z0).mono ?_; rintro e w8 ⟨rfl, rfl⟩))
      go_ret
      exact ⟨rfl, H15.below 0 rfl (fun _ h => h)⟩
theorem ImageGathers : cressetlaw18_ImageGathers.Pure := by
  intro a0 A1 c1 l1 a2 w hr hc w0 w1 w2
  exact gathers_go a0 A1 c1 l1 a2 w hr hc (fun x hx => by have := (w1.2.2 x hx).2.2.1; omega)
end Go.Proofs.Ytkflgkmblebdmaa.Im

set_option linter.unusedVariables false
set_option linter.unusedSimpArgs false
namespace Go.Proofs.Ytkflgkmblebdmaa.Im
open Go.RowKit Go.Shelf Go.Proofs.Ytkflgkmblebdmaa.B Go.Proofs.YtkflgkmblebdmaaW.PrintWords Go.Proofs.YtkflgkmblebdmaaW.PrintLast Go.Proofs.YtkflgkmblebdmaaW.PrintMore Go.Proofs.YtkflgkmblebdmaaW.Mine Go.Proofs.YtkflgkmblebdmaaW.Hp
theorem bl_tri {x y : List UInt8} (h : Op.bytesLess x y = false) (h2 : Op.bytesLess y x = false) : x = y := by
  have := bl_asym x y
  rw [h, h2] at this
  simpa using this
theorem bl_trans : ∀ {x y z : List UInt8}, Op.bytesLess x y = true → Op.bytesLess y z = true → Op.bytesLess x z = true
  | _, _, [], _, h => by simp [Op.bytesLess] at h
  | _, [], _ :: _, h, _ => by simp [Op.bytesLess] at h
  | [], _ :: _, _ :: _, _, _ => by simp [Op.bytesLess]
  | a :: x, b :: y, c :: z, h, h2 => by
    simp only [Op.bytesLess, Bool.or_eq_true, decide_eq_true_eq, Bool.and_eq_true, beq_iff_eq] at h h2 ⊢
    rcases h with h | ⟨rfl, h⟩ <;> rcases h2 with h2 | ⟨rfl, h2⟩
    · exact .inl (UInt8.lt_trans h h2)
    · exact .inl h
    · exact .inl h2
    · exact .inr ⟨rfl, bl_trans h h2⟩
theorem bl_lt_le {x y z : List UInt8} (h : Op.bytesLess x y = true) (h2 : Op.bytesLess z y = false) : Op.bytesLess x z = true := by
  cases h3 : Op.bytesLess y z with
  | true => exact bl_trans h h3
  | false => rw [← bl_tri h3 h2]; exact h
def okP (x : S56) : Prop := keyE x.f0 = 0 ∧ (x.f1.size : Int) ≤ 256 ∧ 1 ≤ x.f2 ∧ x.f2 ≤ 1099511627776
def Inv (s : S) : Prop := (∀ x ∈ s.l, okP x) ∧ s.l.Pairwise (fun x y => Op.bytesLess x.f0.toList y.f0.toList = true) ∧ (∀ x ∈ s.l, Op.bytesLess x.f0.toList s.fr.toList = true) ∧ s.l.length ≤ 65536
theorem inv_new (ts : Int) : Inv ⟨ts, ⟨#[]⟩, []⟩ := ⟨fun x hx => (List.not_mem_nil hx).elim, List.Pairwise.nil, fun x hx => (List.not_mem_nil hx).elim, Nat.zero_le _⟩
theorem next_lt (key : ByteArray) : Op.bytesLess key.toList (key ++ ⟨#[0]⟩ : ByteArray).toList = true := by
  rw [app_toList, zero_toList, bl_next]; simp
theorem seen_ok {l : List S87} {ts : Int} (h : Lib.chk l = 0) (hs : (Lib.seen l ts).2.2.2 = true) : (((Lib.seen l ts).2.1).size : Int) ≤ 256 ∧ 1 ≤ (Lib.seen l ts).1 ∧ (Lib.seen l ts).1 ≤ 1099511627776 := by
  have hg := (Lib.chk_good l).1 h
  unfold Lib.seen at hs ⊢
  cases hf : l.find? (fun x => decide (x.f0 ≤ ts)) with
  | none => rw [hf] at hs; simp at hs
  | some x =>
    have hx := hg.2.1 x (List.mem_of_find?_eq_some hf)
    simp only [Lib.vmay, Bool.and_eq_true, decide_eq_true_eq] at hx
    refine ⟨?_, hx.1, hx.2.1⟩
    show (x.f1.size : Int) ≤ 256
    have := hx.2.2.1
    omega
theorem inv_add {s : S} (h : Inv s) (key : ByteArray) (l : List S87) : Inv (addI s key l).2 := by
  have h0 := h
  obtain ⟨h1, h2, h3, h4⟩ := h
  unfold addI
  simp only [ne_eq]
  by_cases c1 : keyE key = 0
  · simp only [c1, not_true_eq_false, if_false]
    by_cases c2 : Op.bytesLess key.toList s.fr.toList = true
    · simp only [if_pos c2]; exact h0
    · simp only [if_neg c2]
      have c2b : Op.bytesLess key.toList s.fr.toList = false := by simpa using c2
      have hlt : ∀ x ∈ s.l, Op.bytesLess x.f0.toList key.toList = true := fun x hx => bl_lt_le (h3 x hx) c2b
      have hnx : ∀ x ∈ s.l, Op.bytesLess x.f0.toList (key ++ ⟨#[0]⟩ : ByteArray).toList = true := fun x hx => bl_trans (hlt x hx) (next_lt key)
      by_cases c3 : Lib.chk l = 0
      · simp only [c3, not_true_eq_false, if_false]
        by_cases c4 : (Lib.seen l s.ts).2.2.2 = true ∧ (Lib.seen l s.ts).2.2.1 = false
        · simp only [if_pos c4]
          by_cases c5 : (s.l.length : Int) ≥ 65536
          · simp only [if_pos c5]; exact h0
          · simp only [if_neg c5]
            have hv := seen_ok c3 c4.1
            refine ⟨?_, ?_, ?_, ?_⟩
            · intro x hx
              rcases List.mem_append.1 hx with hx | hx
              · exact h1 x hx
              · rw [List.mem_singleton.1 hx]; exact ⟨c1, hv⟩
            · show (s.l ++ _).Pairwise _
              rw [List.pairwise_append]
              refine ⟨h2, List.pairwise_singleton _ _, fun x hx y hy => ?_⟩
              rw [List.mem_singleton.1 hy]; exact hlt x hx
            · intro x hx
              rcases List.mem_append.1 hx with hx | hx
              · exact hnx x hx
              · rw [List.mem_singleton.1 hx]; exact next_lt key
            · show (s.l ++ _).length ≤ _
              simp; omega
        · simp only [if_neg c4]
          exact ⟨h1, h2, hnx, h4⟩
      · simp only [c3, not_false_eq_true, if_true]; exact h0
  · simp only [c1, not_false_eq_true, if_true]; exact h0
theorem chkL_ok {l : List S56} (h1 : ∀ x ∈ l, okP x) (h2 : l.Pairwise (fun x y => Op.bytesLess x.f0.toList y.f0.toList = true)) : ∀ (d i : Nat), i + d = l.length → Pure.chkL l d (i : Int) = 0
  | 0, i, _ => rfl
  | d + 1, i, h => by
    have hi : i < l.length := by omega
    have he := h1 l[i] (List.getElem_mem hi)
    unfold Pure.chkL
    have hp : Pure.pairE l (i : Int) = 0 := by
      unfold Pure.pairE
      rw [rd56 l i hi, if_pos (show Pure.keyE l[i].f0 = 0 from he.1), if_pos (show Pure.valE l[i].f1 = 0 by unfold Pure.valE; rw [if_neg (by have := he.2.1; omega)]), if_pos (show Pure.tsOk l[i].f2 = true by unfold Pure.tsOk; simp; exact ⟨he.2.2.1, he.2.2.2⟩)]
      by_cases hz : i = 0
      · subst hz; rfl
      · rw [if_neg (by omega)]
        obtain ⟨m, rfl⟩ : ∃ m, i = m + 1 := ⟨i - 1, by omega⟩
        rw [show ((m + 1 : Nat) : Int) - 1 = (m : Int) by omega, rd56 l m (by omega), if_pos (List.pairwise_iff_getElem.1 h2 m (m + 1) (by omega) hi (by omega))]
    rw [if_pos hp]
    exact chkL_ok h1 h2 d (i + 1) (by omega)
theorem piece_ok {l : List S56} (h1 : ∀ x ∈ l, okP x) (h2 : l.Pairwise (fun x y => Op.bytesLess x.f0.toList y.f0.toList = true)) (hl : l.length ≤ 65536) {i : Nat} (hi : i < nch l) : Pure.chk (i : Int) (piece l i) = 0 := by
  have hpl : (piece l i).length ≤ 16 := by unfold piece top_; simp; omega
  have hn : nch l ≤ 4096 := by unfold nch; omega
  unfold Pure.chk
  rw [if_neg (by omega)]
  have hsub : (piece l i).Sublist l := (List.drop_sublist _ _).trans (List.take_sublist _ _)
  exact chkL_ok (fun x hx => h1 x (hsub.subset hx)) (h2.sublist hsub) _ 0 (by omega)
theorem bld_all {l : List S56} (h1 : ∀ x ∈ l, okP x) (h2 : l.Pairwise (fun x y => Op.bytesLess x.f0.toList y.f0.toList = true)) (hl : l.length ≤ 65536) : ∀ (d i : Nat), i + d = nch l → Pure.bld (wantL l) d (i : Int) (l.take (16 * i)) = (l, 0)
  | 0, i, h => by
    unfold Pure.bld
    rw [List.take_of_length_le (by have : nch l = (l.length - 1) / 16 + 1 := rfl; omega)]
  | d + 1, i, h => by
    have hi : i < nch l := by omega
    have hn : nch l = (l.length - 1) / 16 + 1 := rfl
    unfold Pure.bld
    rw [wantL_at l i hi]
    rw [if_pos (show Pure.chk (chunkAt l i).f0 (chunkAt l i).f1 = 0 from piece_ok h1 h2 hl hi), if_pos (show (chunkAt l i).f0 = (i : Int) from rfl)]
    have hb : ((chunkAt l i).f2 != ((i : Int) == ((wantL l).length : Int) - 1)) = false := by
      have h9 := (nch_last l i hi).1
      rw [wantL_len]
      show (((top_ l i : Int) == (l.length : Int)) != ((i : Int) == (nch l : Int) - 1)) = false
      by_cases hc : top_ l i = l.length
      · have := h9.1 hc
        rw [show ((top_ l i : Int) == (l.length : Int)) = true from beq_iff_eq.mpr (by omega), show ((i : Int) == (nch l : Int) - 1) = true from beq_iff_eq.mpr (by omega)]; rfl
      · have : ¬ (i + 1 = nch l) := fun h => hc (h9.2 h)
        rw [show ((top_ l i : Int) == (l.length : Int)) = false from beq_eq_false_iff_ne.mpr (by omega), show ((i : Int) == (nch l : Int) - 1) = false from beq_eq_false_iff_ne.mpr (by omega)]; rfl
    rw [if_neg (by rw [hb]; decide)]
    have hg : Pure.goes (l.take (16 * i)) (chunkAt l i).f1 = true := by
      show Pure.goes (l.take (16 * i)) (piece l i) = true
      unfold Pure.goes
      by_cases g1 : 0 < (piece l i).length
      · rw [if_pos g1]
        by_cases g2 : 0 < (l.take (16 * i)).length
        · rw [if_pos g2]
          have hpl : (piece l i).length = top_ l i - 16 * i := by unfold piece; simp; have : top_ l i ≤ l.length := by unfold top_; omega
                                                                  omega
          have htl : (l.take (16 * i)).length = 16 * i := by rw [List.length_take]; unfold top_ at hpl; omega
          rw [htl] at g2
          have hlt : 16 * i < l.length := by unfold top_ at hpl; omega
          unfold Pure.lastLess
          rw [htl, show ((16 * i : Nat) : Int) - 1 = ((16 * i - 1 : Nat) : Int) by omega, rd56 (l.take (16 * i)) (16 * i - 1) (by omega), show (0 : Int) = ((0 : Nat) : Int) from rfl, rd56 (piece l i) 0 g1]
          have e1 : (l.take (16 * i))[16 * i - 1]'(by omega) = l[16 * i - 1]'(by omega) := by simp
          have e2 : (piece l i)[0]'g1 = l[16 * i]'hlt := by simp [piece]
          rw [e1, e2]
          exact List.pairwise_iff_getElem.1 h2 (16 * i - 1) (16 * i) (by omega) hlt (by omega)
        · rw [if_neg g2]
      · rw [if_neg g1]
    rw [if_pos hg]
    have hcat : l.take (16 * i) ++ (chunkAt l i).f1 = l.take (16 * (i + 1)) := by
      show l.take (16 * i) ++ piece l i = _
      have ht : l.take (16 * (i + 1)) = l.take (top_ l i) := by
        unfold top_
        by_cases hc : 16 * i + 16 ≤ l.length
        · rw [Nat.min_eq_right hc, Nat.mul_add]
        · rw [Nat.min_eq_left (by omega), List.take_of_length_le (by omega), List.take_length]
      rw [ht]
      unfold piece
      have h16 : 16 * i ≤ top_ l i := (nch_last l i hi).2
      conv => rhs; rw [← List.take_append_drop (16 * i) (l.take (top_ l i))]
      rw [List.take_take, Nat.min_eq_left h16]
    rw [hcat]
    exact bld_all h1 h2 hl d (i + 1) (by omega)
theorem back_ev {l : List S56} (h1 : ∀ x ∈ l, okP x) (h2 : l.Pairwise (fun x y => Op.bytesLess x.f0.toList y.f0.toList = true)) (hl : l.length ≤ 65536) : ∃ k, image_Build.f k (wantL l) = some (l, 0) := by
  have hn : nch l ≤ 4096 := by unfold nch; omega
  have h := Pure.build_ev (wantL l) (by rw [wantL_len]; omega)
  rw [if_neg (by rw [wantL_len]; unfold nch; omega), wantL_len] at h
  have hb := bld_all h1 h2 hl (nch l) 0 (by omega)
  rw [show l.take (16 * 0) = [] by simp, show ((0 : Nat) : Int) = 0 from rfl] at hb
  rw [hb] at h
  exact h.rounds
end Go.Proofs.Ytkflgkmblebdmaa.Im

set_option linter.unusedVariables false
set_option linter.unusedSimpArgs false
namespace Go.Proofs.Ytkflgkmblebdmaa.Im
open Go.RowKit Go.Shelf Go.Proofs.Ytkflgkmblebdmaa.B Go.Proofs.YtkflgkmblebdmaaW.PrintWords Go.Proofs.YtkflgkmblebdmaaW.PrintLast Go.Proofs.YtkflgkmblebdmaaW.PrintMore Go.Proofs.YtkflgkmblebdmaaW.Mine Go.Proofs.YtkflgkmblebdmaaW.Hp
attribute [local go_sem] Oper.semAt_some
theorem rel_err {ts : Int} (ht : ts < 0 ∨ 1099511627776 < ts) : (decide (ts < 0) = true) ∨ (decide (ts < 0) = false ∧ decide (1099511627776 < ts) = true) := by
  by_cases h : ts < 0
  · exact .inl (decide_eq_true h)
  · exact .inr ⟨decide_eq_false h, decide_eq_true (by omega)⟩
set_option maxHeartbeats 16000000 in
set_option maxRecDepth 100000 in
theorem back_go (ts : Int) (A : Option Addr) (c : Nat) (ps : List S33) (w : World) (hC : Kd.C k33 w A ps.length ps) (hc : ps.length ≤ c) (hs : ∀ x ∈ ps, x.f1.length ≤ 4398046511104) :
    Calls Try.prog 6 #[.int .i64 ts, .slice A ps.length c] w fun e w' => e = .returned (.bool true) ∧ Below w.heap.size w w' := by
  have hmx : ps.length ≤ 9223372036854775807 := hC.2.1
  refine (callsIn_wide (n := 3)).1 (callsIn_of_wp_marks Try.func6 rfl trivial ?_ rfl)
  rw [wpIn_wide]
  simp only [Try.ntmps6, List.size_toArray, List.length_cons, List.length_nil, Nat.reduceAdd, Nat.reduceSub, Array.replicate_succ, Array.replicate_zero, List.push_toArray, List.append_toArray, List.nil_append, List.cons_append]
  by_cases ht : ts < 0 ∨ 1099511627776 < ts
  · clear hC
    rcases rel_err ht with c0 | ⟨c0, c1⟩
    all_goals
      (go_wp2_with (first
         | (go_at_call 10; refine (new_err ts ht _).mono ?_; rintro e w1 ⟨rfl, rfl⟩)
         | (go_at_call 12; refine (begun_calls _).mono ?_; rintro e w3 ⟨rfl, hb3⟩))
       refine ⟨.bool true, ?_, rfl, hb3⟩
       simp [results, Try.f6, go_sem])
  have h0 : 0 ≤ ts := by omega
  have h1 : ts ≤ 1099511627776 := by omega
  have H := (Hp.start w).came h33 0 rfl hC
  have HS := Aside0.mk hs
  have HT := Aside0.mk ht
  clear hs hC ht
  go_wp2_with (first
    | (go_at_call 10; refine (H.make 1 (new_calls ts h0 h1) (fun _ _ => trivial)).mono ?_; rintro e w1 ⟨r, rfl, H1⟩; obtain ⟨b, H2⟩ := H1.open_ 2 rfl; obtain rfl := H2.fact 2 rfl (fun S h => h.1); have H3 := H2.imp 2 (A' := isImg b ⟨ts, ⟨#[]⟩, []⟩) rfl (fun S h => h.2); clear H1 H2)
    | (go_at_call 12; refine (begun_calls _).mono ?_; rintro e w3 ⟨rfl, hb3⟩; have H7 := H3.same hb3; clear hb3 H3))
  go_loopg [38] ps.length (fun gk v38 wr => ∃ (i : Nat) (s : S), v38 = .int .i64 i ∧ i ≤ ps.length ∧ ps.length - i ≤ gk ∧ Aside0 (Inv s) ∧ Aside0 (Hp w wr [(0, Asn.old w (fun _ => False)), (0, Asn.rd k33 A ps.length ps), (1, isImg b s)]))
  case atStart => exact ⟨0, ⟨ts, ⟨#[]⟩, []⟩, rfl, Nat.zero_le _, by omega, ⟨inv_new ts⟩, ⟨H7⟩⟩
  case round =>
    clear H7
    obtain ⟨i, s, rfl, hil, hgk, HK, HO⟩ := hrel
    by_cases hlt : i < ps.length
    · have hltz : (i : Int) < (ps.length : Int) := by omega
      obtain ⟨ad, Ax, cx, e, x0, x1, lx, HQ⟩ := reads33 HO.out 1 rfl (i : Int) (by omega) hltz
      cases e
      have hxl : (rd_T33 ps (i : Int)).f1.length ≤ 4398046511104 := HS.out _ (Sl.getD_in _ (by simpa using hlt))
      have HI := Aside0.mk HQ
      have HGK := Aside0.mk hgk
      clear HO HQ hgk
      rw [Int.toNat_natCast] at x0 x1
      generalize rd_T33 ps (i : Int) = x at x0 x1 lx hxl HI
      obtain ⟨ka, hka⟩ := (Lib.check_ev x.f1).rounds
      have hinv := inv_add HK.out x.f0 x.f1
      have hadd := addO_eq ka s x.f0 x.f1 hka (by omega)
      obtain ⟨e1, s', hI⟩ : ∃ e1 s', addI s x.f0 x.f1 = (e1, s') := ⟨_, _, rfl⟩
      rw [hI] at hadd hinv
      dsimp only at hinv
      have HA := Aside0.mk (add_calls ka b s s' x.f0 Ax cx x.f1 e1 lx hadd)
      have HN := Aside0.mk hinv
      clear hI hadd hinv hka
      go_wp2_with (first
        | ((with_reducible refine gate_dst (N := 8) rfl ?_); refine Hp.at_box HI.out 7 ?hg (N := 8) ?hd (cs := #[.string ⟨#[]⟩, .slice none 0 0]) (t := 33) ?hr ?_; (case hd => rfl); (case hg => rfl); (case hr => first | (go_simp; done) | (go_simp; rfl)); intro gx w3 H3; clear HI x0 x1; have y0 := H3.cell 4 rfl 0 (v := .string ⟨#[]⟩) rfl; have y1 := H3.cell 4 rfl 1 (v := .slice none 0 0) rfl; have u0 := H3.unfrozen 4 rfl 0; have u1 := H3.unfrozen 4 rfl 1)
        | ((with_reducible refine gate_store (t := 33) (p := 8) rfl ?_); refine Hp.at_sets H3 4 rfl rfl ?hg (T := 33) (z := 8) (x := ?vo) ?ho ?hn 0 [.string x.f0, .slice Ax x.f1.length cx] ?hr (cs' := #[.string x.f0, .slice Ax x.f1.length cx]) ?hc ?_; (case ho => rfl); (case hg => rfl); (case hn => rfl); (case hr => first | (go_simp; done) | (go_simp; rfl)); (case hc => rfl); clear y0 y1 u0 u1; intro w4 H4; have y0 := H4.cell 4 rfl 0 (v := .string x.f0) rfl; have y1 := H4.cell 4 rfl 1 (v := .slice Ax x.f1.length cx) rfl)
        | (go_at_call 13; refine (H4.call HA.out 2 rfl rfl (fun lab h => (Asn.rd k87 Ax x.f1.length x.f1).mono (h.get (p := 3) rfl) (fun k _ hk => by have h2 : lab k = 0 := hk; omega))).mono ?_; rintro e w9 ⟨r9, rfl, H9'⟩; obtain rfl := H9'.fact 2 rfl (fun _ h => h.1); have H9 := H9'.imp (A' := isImg b s') 2 rfl (fun _ h => h.2); clear H9' H4 y0 y1))
      go_roundg (ps.length - (i + 1))
      case measure => have := HGK.out; omega
      case rel => exact ⟨i + 1, s', by go_num, by omega, by omega, ⟨HN.out⟩, ⟨H9.keep [0, 1, 2]⟩⟩
    · have hltz : ¬ (i : Int) < (ps.length : Int) := by omega
      have hl : s.l.length ≤ 65536 := HK.out.2.2.2
      have HL := Aside0.mk hl
      have H8 : Hp w wr [(0, Asn.old w (fun _ => False)), (1, isImg b s)] := HO.out.keep [0, 2]
      clear HO hil hgk
      go_wp2_with (first
        | ((with_reducible refine gate_dst (N := 9) rfl ?_); refine Hp.at_box H8 3 ?hg (N := 9) ?hd (cs := #[.slice none 0 0]) (t := 38) ?hr ?_; (case hd => rfl); (case hg => rfl); (case hr => first | (go_simp; done) | (go_simp; rfl)); intro g9 w9 H9)
        | (go_at_call 25; refine (H9.call (pairs_tr b s hl) 1 rfl rfl (fun _ _ => trivial)).mono ?_; rintro e w1 ⟨r, rfl, H1⟩; obtain ⟨⟨g, A0, c0⟩, H2⟩ := H1.open_ 1 rfl; obtain rfl := H2.fact 1 rfl (fun S h => h.1); have H3 := (H2.imp 1 (A' := Asn.star (isImg b s) (isIt g A0 c0 s.l)) rfl (fun S h => h.2)).split 1 4 rfl rfl (by decide); have H4' := H3.split 3 5 rfl rfl (by decide); have H4 : Hp w w1 [(0, Asn.old w (fun _ => False)), (1, isImg b s), (3, Asn.box g9 #[.slice none 0 0] 38), (4, Asn.box g #[.slice A0 s.l.length c0] 38), (5, Asn.row k56 56 (.slice A0 s.l.length c0) s.l)] := H4'; clear H8 H9 H1 H2 H3 H4'))
      refine wpIn_wide.1 (rf_walkA (n := 3) (by omega) (gf := 67) (lb := #[.pointer (some ⟨g, 0, none⟩)]) rfl (enters_of Try.func67 (by kernel_rfl) rfl) ?_)
      intro rec hYield
      have H5 := H4.free 6 (A := Asn.row k56 56 (.slice none 0 0) []) (Kd.R_nil _ _ _ _ _)
      have H8' := obj_new (obj_new H5 7 (.deferred (some []))) 8 (.loop (rec .ready none))
      rw [World.size_alloc] at H8'
      clear H4 H5
      refine (in67v (w1.heap.size + 1) g 1 A0 c0 s.l (fun i W => ∃ v : Value, Hp w W [(0, Asn.old w (fun _ => False)), (1, isImg b s), (3, Asn.box g9 #[v] 38), (4, Asn.box g #[.slice A0 s.l.length c0] 38), (5, Asn.row k56 56 (.slice A0 s.l.length c0) s.l), (6, Asn.row k56 56 v (s.l.take i)), (7, Asn.obj w1.heap.size (.deferred (some []))), (8, Asn.obj (w1.heap.size + 1) (.loop (rec .ready none)))])
        (fun _ _ => False) _
        (fun _ _ ⟨_, H⟩ => ⟨H.cell 3 rfl 0 rfl, (H.row_C 4 rfl).2.2⟩) (fun _ _ _ ⟨v, H⟩ hb => ⟨v, H.same hb⟩) ?_ ⟨_, H8'⟩).mono ?_
      · rintro i W0 hi ⟨v, HJ⟩
        have H9 := HJ.box_new 9 #[.string (rd_T56 s.l (i : Int)).f0, .string (rd_T56 s.l (i : Int)).f1, .int .i64 (rd_T56 s.l (i : Int)).f2] 56
        refine hYield #[v56 (rd_T56 s.l (i : Int))] W0 (W0.alloc (.cells #[.string (rd_T56 s.l (i : Int)).f0, .string (rd_T56 s.l (i : Int)).f1, .int .i64 (rd_T56 s.l (i : Int)).f2] 56)) _ _ rfl (HJ.obj_at 7 rfl) (H9.obj_at 7 rfl) (fun K hK => by unfold v56; gi_wp2; exact hK) ?_
        have H10 := H9.put_obj 7 rfl rfl (.loop { rec .ready none with state := .busy })
        obtain ⟨Av, cv, rfl⟩ := H10.fact 5 rfl (fun S h => Kd.R_slice h)
        rw [show (s.l.take i).length = i by simp; omega] at H10
        have HTK := Aside0.mk (take56 s.l i hi)
        generalize rd_T56 s.l (i : Int) = x at *
        generalize W0.heap.size = g8 at *
        generalize (W0.alloc (.cells #[.string x.f0, .string x.f1, .int .i64 x.f2] 56)).putObj (w1.heap.size + 1) (.loop { rec .ready none with state := .busy }) = W2 at *
        have q0 := H10.cell 8 rfl 0 rfl
        have q1 := H10.cell 8 rfl 1 rfl
        have q2 := H10.cell 8 rfl 2 rfl
        have y3 := H10.cell 2 rfl 0 rfl
        have HI := Aside0.mk hi
        clear hYield H9 HJ H8'
        refine wpIn_block ?_
        refine region_round (by kernel_rfl) ?_
        go_wp2_with (first
          | ((with_reducible refine gate_builtin (b := .append) (xs := #[.tmp 52, .tmp 54]) rfl ?_); at_builtin; refine Hp.at_append k56 H10 5 rfl (.tmp 52) (.tmp 54) 38 56 (.agg #[.string ⟨#[]⟩, .string ⟨#[]⟩, .int .i64 0]) 40 rfl Try.underlying38 info56 rfl (by decide) (by omega) (.slice Av i cv) (s.l.take i) rfl rfl x [.string x.f0, .string x.f1, .int .i64 x.f2] ?hs ?hx (fun _ => k56_mkM _ _ _ _) (by have := HI.out; have := HL.out; simp; omega) ?_; (case hs => rfl); (case hx => rfl); intro v5 w5 H11; obtain ⟨A5, c5, hv5⟩ := H11.fact 5 rfl (fun S h => Kd.R_slice h); rw [show (s.l.take i ++ [x]).length = i + 1 by simp; have := HI.out; omega] at hv5; subst hv5; have y5 := H11.cell 2 rfl 0 (v := .slice Av i cv) rfl; have u5 := H11.unfrozen 2 rfl 0))
        have H12 := H11.box_set 2 rfl rfl 0 (.slice A5 (i + 1) c5)
        rw [HTK.out] at H12
        exact ⟨H12.obj_at 7 rfl, rfl, _, (H12.put_obj 7 rfl rfl (.loop (rec .ready none))).keep [0, 1, 2, 3, 4, 5, 6, 7]⟩
      · rintro e W2 ⟨hv, (⟨v, H13⟩ | ⟨i0, _, hf⟩)⟩
        · refine ⟨hv, .inl ⟨H13.obj_at 7 rfl, fun o' => ?_⟩⟩
          have H14 := (H13.put_obj 7 rfl rfl o').keep [0, 1, 2, 5, 6]
          generalize W2.putObj (w1.heap.size + 1) o' = W3 at H14 ⊢
          rw [List.take_length] at H14
          obtain ⟨A5, c5, rfl⟩ := H14.fact 3 rfl (fun S h => Kd.R_slice h)
          have HE : Hp w W3 [(0, Asn.old w (fun _ => False)), (1, isImg b s), (3, Asn.box g9 #[.slice A5 s.l.length c5] 38), (6, Asn.row k56 56 (.slice A5 s.l.length c5) s.l), (7, Asn.obj w1.heap.size (.deferred (some [])))] := H14
          clear H14 hYield H8' H13 hv
          go_wp2_with (first
            | ((with_reducible refine gate_dst (N := 11) rfl ?_); refine Hp.at_box HE 8 ?hg (N := 11) ?hd (cs := #[.slice none 0 0]) (t := 43) ?hr ?_; (case hd => rfl); (case hg => rfl); (case hr => first | (go_simp; done) | (go_simp; rfl)); intro g11 w9 H9)
            | (go_at_call 26; refine (H9.call (chunks_tr b s hl) 1 rfl rfl (fun _ _ => trivial)).mono ?_; rintro e w7 ⟨r, rfl, H7⟩; obtain ⟨⟨b5, b3, A1, c1⟩, H8⟩ := H7.open_ 1 rfl; obtain rfl := H8.fact 1 rfl (fun S h => h.1); have H10 := (H8.imp 1 (A' := Asn.star (isImg b s) (isChk b5 b3 A1 c1 s.l)) rfl (fun S h => h.2)).split 1 9 rfl rfl (by decide); have H11 := H10.split 6 10 rfl rfl (by decide); have H12 := H11.split 7 11 rfl rfl (by decide); have HF : Hp w w7 [(0, Asn.old w (fun _ => False)), (1, isImg b s), (3, Asn.box g9 #[.slice A5 s.l.length c5] 38), (6, Asn.row k56 56 (.slice A5 s.l.length c5) s.l), (7, Asn.obj w1.heap.size (.deferred (some []))), (8, Asn.box g11 #[.slice none 0 0] 43), (9, Asn.box b5 #[.bool false] 4), (10, Asn.box b3 #[.slice A1 s.l.length c1] 38), (11, Asn.row k56 56 (.slice A1 s.l.length c1) s.l)] := H12; clear H7 H8 H9 H10 H11 H12 HE))
          have hcc := (HF.row_C 8 rfl).2.1
          refine wpIn_wide.1 (rf_walkA (n := 3) (by omega) (gf := 47) (lb := #[.pointer (some ⟨b5, 0, none⟩), .pointer (some ⟨b3, 0, none⟩)]) rfl (enters_of Try.func47 (by kernel_rfl) rfl) ?_)
          intro rec2 hYield
          have HN0 := HF.free 12 (A := Asn.row k65 65 (.slice none 0 0) []) (Kd.R_nil _ _ _ _ _)
          have HN := obj_new (obj_new HN0 13 (.deferred (some []))) 14 (.loop (rec2 .ready none))
          rw [World.size_alloc] at HN
          clear HF HN0
          refine (in47v (w7.heap.size + 1) b5 b3 1 A1 c1 s.l hl hcc (fun i W => ∃ v : Value, Hp w W [(0, Asn.old w (fun _ => False)), (1, isImg b s), (3, Asn.box g9 #[.slice A5 s.l.length c5] 38), (6, Asn.row k56 56 (.slice A5 s.l.length c5) s.l), (7, Asn.obj w1.heap.size (.deferred (some []))), (8, Asn.box g11 #[v] 43), (9, Asn.box b5 #[.bool false] 4), (10, Asn.box b3 #[.slice A1 s.l.length c1] 38), (11, Asn.row k56 56 (.slice A1 s.l.length c1) s.l), (12, Asn.row k65 65 v ((wantL s.l).take i)), (13, Asn.obj w7.heap.size (.deferred (some []))), (14, Asn.obj (w7.heap.size + 1) (.loop (rec2 .ready none)))])
            (fun _ _ => False) _
            (fun _ _ ⟨_, H⟩ => ⟨H.cell 6 rfl 0 rfl, H.cell 7 rfl 0 rfl, (H.row_C 8 rfl).2.2⟩) (fun _ _ _ ⟨v, H⟩ hb => ⟨v, H.same hb⟩) ?_ ⟨_, HN⟩).mono ?_
          · rintro i W0 W1 gc v hi ⟨vl, HJ⟩ hB hC
            have hwt : (wantL s.l).take i ++ [chunkAt s.l i] = (wantL s.l).take (i + 1) := by
              have h2 : (wantL s.l)[i]'(by rw [wantL_len]; exact hi) = chunkAt s.l i := by simp [wantL]
              rw [← h2, List.take_append_getElem]
            have hwn : ((wantL s.l).take i).length = i := by rw [List.length_take, wantL_len]; omega
            have HWT := Aside0.mk hwt
            have hi2 : i ≤ 4100 := by unfold nch at hi; omega
            have H1 : Hp w W1 [(0, Asn.old w (fun _ => False)), (1, isImg b s), (3, Asn.box g9 #[.slice A5 s.l.length c5] 38), (6, Asn.row k56 56 (.slice A5 s.l.length c5) s.l), (7, Asn.obj w1.heap.size (.deferred (some []))), (8, Asn.box g11 #[vl] 43), (9, Asn.box b5 #[.bool false] 4), (10, Asn.box b3 #[.slice A1 s.l.length c1] 38), (11, Asn.row k56 56 (.slice A1 s.l.length c1) s.l), (12, Asn.row k65 65 vl ((wantL s.l).take i)), (13, Asn.obj w7.heap.size (.deferred (some []))), (14, Asn.obj (w7.heap.size + 1) (.loop (rec2 .ready none))), (15, Asn.row k56 56 v (piece s.l i)), (16, Asn.box gc #[.int .i64 i, v, .bool ((top_ s.l i : Int) == (s.l.length : Int))] 65)] := (HJ.new 15 hB hC).split 12 16 rfl rfl (by decide)
            clear HJ hB hC HN hwt
            obtain ⟨Av, cv, rfl⟩ := H1.fact 12 rfl (fun S h => Kd.R_slice h)
            obtain ⟨Al, cl, rfl⟩ := H1.fact 9 rfl (fun S h => Kd.R_slice h)
            rw [hwn] at H1
            have hel : ∀ S, (Asn.row k56 56 (.slice Av (piece s.l i).length cv) (piece s.l i)).P W1 S → (Asn.el k65 (chunkAt s.l i) [.int .i64 i, .slice Av (piece s.l i).length cv, .bool ((top_ s.l i : Int) == (s.l.length : Int))]).P W1 S := fun S h => k65_mkM _ _ _ (chunkAt s.l i) h
            have H1b := H1.imp 12 rfl hel
            clear H1 hel
            generalize piece s.l i = pc at *
            generalize ((top_ s.l i : Int) == (s.l.length : Int)) = bb at *
            generalize (wantL s.l).take i = wt at *
            generalize chunkAt s.l i = ch at *
            have H2 := H1b.box_new 17 #[.int .i64 i, .slice Av pc.length cv, .bool bb] 65
            refine hYield #[.agg #[.int .i64 i, .slice Av pc.length cv, .bool bb]] W1 (W1.alloc (.cells #[.int .i64 i, .slice Av pc.length cv, .bool bb] 65)) _ _ rfl (H1b.obj_at 11 rfl) (H2.obj_at 11 rfl) (fun K hK => by gi_wp2; exact hK) ?_
            have H3 := H2.put_obj 11 rfl rfl (.loop { rec2 .ready none with state := .busy })
            generalize W1.heap.size = g17 at *
            generalize (W1.alloc (.cells #[.int .i64 i, .slice Av pc.length cv, .bool bb] 65)).putObj (w7.heap.size + 1) (.loop { rec2 .ready none with state := .busy }) = W2b at *
            have q0 := H3.cell 14 rfl 0 rfl
            have q1 := H3.cell 14 rfl 1 rfl
            have q2 := H3.cell 14 rfl 2 rfl
            have y3 := H3.cell 5 rfl 0 rfl
            have HWN := Aside0.mk hwn
            have HI2 := Aside0.mk hi2
            clear hYield H1b H2 hwn
            refine wpIn_block ?_
            refine region_round (by kernel_rfl) ?_
            go_wp2_with (first
              | ((with_reducible refine gate_builtin (b := .append) (xs := #[.tmp 59, .tmp 61]) rfl ?_); at_builtin; refine Hp.at_append_el k65 H3 9 12 rfl (.tmp 59) (.tmp 61) 43 65 (.agg #[.int .i64 0, .slice none 0 0, .bool false]) 40 rfl Try.underlying43 info65 rfl (by decide) (by omega) (.slice Al i cl) wt rfl rfl ch [.int .i64 i, .slice Av pc.length cv, .bool bb] rfl (by decide) rfl ?hs ?hx (by have := HWN.out; have := HI2.out; omega) ?_; (case hs => rfl); (case hx => rfl); intro v5 w5 H11; obtain ⟨A6, c6, hv5⟩ := H11.fact 9 rfl (fun S h => Kd.R_slice h); rw [show (wt ++ [ch]).length = i + 1 by simp; have := HWN.out; omega] at hv5; subst hv5; have y5 := H11.cell 5 rfl 0 (v := .slice Al i cl) rfl; have u5 := H11.unfrozen 5 rfl 0))
            have H12 := H11.box_set 5 rfl rfl 0 (.slice A6 (i + 1) c6)
            rw [HWT.out] at H12
            exact ⟨H12.obj_at 11 rfl, rfl, ⟨_, (H12.put_obj 11 rfl rfl (.loop (rec2 .ready none))).keep [0, 1, 2, 3, 4, 5, 6, 7, 8, 9, 10, 11]⟩, (H12.put_obj 11 rfl rfl (.loop (rec2 .ready none))).obj_at 13 rfl⟩
          · rintro e W4 ⟨hv2, (⟨v2, H13⟩ | ⟨i0, _, hf⟩)⟩
            · refine ⟨hv2, .inl ⟨H13.obj_at 11 rfl, fun o' => ?_⟩⟩
              have H14 := (H13.put_obj 11 rfl rfl o').keep [0, 1, 2, 3, 4, 5, 9, 10]
              generalize W4.putObj (w7.heap.size + 1) o' = W5 at H14 ⊢
              rw [show (wantL s.l).take (nch s.l) = wantL s.l from List.take_of_length_le (by rw [wantL_len]; exact Nat.le_refl _)] at H14
              obtain ⟨A6, c6, rfl⟩ := H14.fact 6 rfl (fun S h => Kd.R_slice h)
              obtain ⟨vi, H15⟩ := H14.open_ 1 rfl
              have HG : Hp w W5 [(0, Asn.old w (fun _ => False)), (1, Asn.box b #[.int .i64 s.ts, .string s.fr, vi, .bool true] 48), (3, Asn.box g9 #[.slice A5 s.l.length c5] 38), (6, Asn.row k56 56 (.slice A5 s.l.length c5) s.l), (7, Asn.obj w1.heap.size (.deferred (some []))), (8, Asn.box g11 #[.slice A6 (wantL s.l).length c6] 43), (12, Asn.row k65 65 (.slice A6 (wantL s.l).length c6) (wantL s.l)), (13, Asn.obj w7.heap.size (.deferred (some []))), (2, Asn.row k56 56 vi s.l)] := H15.split 1 2 rfl rfl (by decide)
              clear H14 H15 H13 hYield HN hv2
              obtain ⟨Ai, ci, rfl⟩ := HG.fact 8 rfl (fun S h => Kd.R_slice h)
              obtain ⟨kb, hkb⟩ := back_ev HK.out.1 HK.out.2.1 hl
              obtain ⟨ke, hke⟩ := (Pure.eq_ev s.l hl).rounds
              have y11 := HG.cell 5 rfl 0 rfl
              have HKB := Aside0.mk hkb
              have HKE := Aside0.mk hke
              clear hkb hke
              go_wp2_with (go_at_call 22; refine (image_Build.calls kb A6 c6 (wantL s.l) s.l 0 _ (HG.row_C 6 rfl).2.2 (HG.row_C 6 rfl).2.1 HKB.out).mono ?_; rintro e w8 ⟨v8, rfl, hR8, hb8⟩; have HH := HG.made 20 hb8 hR8; obtain ⟨A8, c8, rfl⟩ := Kd.R_slice hR8; clear hR8 hb8 HG y11)
              have y9 := HH.cell 2 rfl 0 (v := .slice A5 s.l.length c5) rfl
              have z2 := HH.cell 1 rfl 2 (v := .slice Ai s.l.length ci) rfl
              have z3 := HH.cell 1 rfl 3 (v := .bool true) rfl
              have R8 := Aside0.mk (HH.row_C 9 rfl)
              have R5 := Aside0.mk (HH.row_C 3 rfl)
              have HHA := Aside0.mk HH
              clear HH
              go_quiet (first
                | (go_at_call 24; refine (api_Stamped_24.calls ke A8 c8 s.l A5 c5 s.l true _ (Kd.C_drewN R8.out.2.2 _) R8.out.2.1 (Kd.C_drewN R5.out.2.2 _) R5.out.2.1 HKE.out).mono ?_; rintro e w' ⟨rfl, ⟨nd, rfl⟩⟩; exact ⟨rfl, _, World.drewN_drewN _ _ _⟩)
                | (go_at_call 17; refine (len_calls b _ Ai s.l.length ci ((HHA.out.drewN _).cell 1 rfl 3 (v := .bool true) rfl) ((HHA.out.drewN _).cell 1 rfl 2 (v := .slice Ai s.l.length ci) rfl)).mono ?_; rintro e w' ⟨rfl, rfl⟩; exact ⟨rfl, _, rfl⟩))
              have HZ := HHA.out.drewN nq
              have hd2 := HZ.obj_at 7 rfl
              have HZ2 := HZ.put_obj 7 rfl rfl (.deferred none)
              have hd1 := HZ2.obj_at 4 rfl
              have HZ3 := HZ2.put_obj 4 rfl rfl (.deferred none)
              clear HZ HHA R8 R5
              go_wp2
              refine ⟨by simp, .inl ⟨_, _, rfl, run_takeDeferred hd2, ?_⟩⟩
              refine ⟨by simp, .inl ⟨_, _, rfl, run_takeDeferred hd1, ?_⟩⟩
              refine ⟨.bool true, ?_, rfl, HZ3.below 0 rfl (fun _ h => h)⟩
              simp [results, Try.f6, go_sem]
            · exact hf.elim
        · exact hf.elim
theorem ImageBack : cressetlaw18_ImageBack.Pure := by
  intro a0 A1 c1 l1 w hr hc w0 w1
  exact back_go a0 A1 c1 l1 w hr hc (fun x hx => by have := (w1.2.2 x hx).2.2.1; omega)
end Go.Proofs.Ytkflgkmblebdmaa.Im

namespace Go.Proofs.Ytkflgkmblebdmaa.Pure
open Go.RowKit Go.Proofs.Ytkflgkmblebdmaa.B
theorem ImageBack : cressetlaw18_ImageBack.Pure := Im.ImageBack
end Go.Proofs.Ytkflgkmblebdmaa.Pure

import Derived.RangeFuncNested
import Derived.RangeFuncBound
import Derived.RangeFuncCalls
import Derived.RangeFuncLeaves
import Derived.RangeFuncMany
import Derived.RangeFuncFrom
import Derived.Shelf.Abstract
import Derived.Shelf.RegionOpen
import Derived.WalkKit
import Derived.OwnWalkIn
import Derived.TacticsInMore
import Derived.LoopNIn
import Derived.LoopIn
import Derived.Deep.Heap
import Derived.Test.YtphdinelioendaaLibP
namespace Go.Proofs.Ytphdinelioendaa.Walk
open Go.RowKit Go.Shelf Go.Proofs.Ytphdinelioendaa.B Go.Proofs.Ytphdinelioendaa.Lib Go.Proofs.YtphdinelioendaaW.PrintWords Go.Proofs.YtphdinelioendaaW.PrintLast Go.Proofs.YtphdinelioendaaW.PrintMore
attribute [local go_sem] Oper.semAt_some
set_option linter.unusedVariables false
set_option linter.unusedSimpArgs false

/-- the ints that stand one behind the other from a place on, with their places -/
def its (l : List Int) : Nat → Nat → List (Int × Int)
  | 0, _ => []
  | d + 1, at_ => if (P (l.drop at_)).2.2 = 0 then ((at_ : Int), (P (l.drop at_)).1) :: its l d (at_ + (P (l.drop at_)).2.1.toNat) else []
theorem grown_drewN (W : World) (n : Nat) : W.grownBy (W.drewN n) none := ⟨rfl, rfl, rfl, Nat.le_refl _, fun _ _ _ => rfl⟩

/-- what a round keeps: what lay below B, and the iterator's own block -/
def Kp (B b : Nat) (W W' : World) : Prop := Below B W W' ∧ W'.heap[b]? = W.heap[b]?
theorem Kp.trans {B b : Nat} {W1 W2 W3 : World} (h : Kp B b W1 W2) (k : Kp B b W2 W3) : Kp B b W1 W3 := ⟨h.1.trans k.1, k.2.trans h.2⟩
set_option maxRecDepth 100000 in
set_option maxHeartbeats 2000000 in
theorem ints1_in (l Bn : Nat) (A : Option Addr) (c : Nat) (xs : List Int) (hb : Bytes xs) (hlen : xs.length ≤ 140737488355000) (hcap : xs.length ≤ c) (w0 : World) (hC : (Kd.int .u8).C w0 A xs.length xs)
    (J Jx : List (Int × Int) → World → Prop) (W : World) (hW : Below w0.heap.size w0 W) (hcell : W.cell? ⟨Bn, 0, none⟩ = some (.slice A xs.length c)) (hJ : AbidesFrom W.heap.size J)
    (hY : ∀ pre x W1, J pre W1 → pre.length < (its xs (xs.length + 1) 0).length → YieldAt Fence.wide (3 - 1) Try.prog l #[.int .i64 x.1, .int .i64 x.2] W1 fun e W' =>
      (e = .returned (.bool true) ∧ J (pre ++ [x]) W' ∧ Kp w0.heap.size Bn W1 W') ∨ (e = .returned (.bool false) ∧ Jx (pre ++ [x]) W'))
    (h0 : J [] W) :
    CallsIn Fence.wide 3 Try.prog 47 #[.func (.yield l) #[] #[], .pointer (some ⟨Bn, 0, none⟩)] W fun e W' => (∃ v, e = .returned v) ∧
      ((∃ ys, ys = its xs (xs.length + 1) 0 ∧ J ys W') ∨ (∃ pre, pre <+: its xs (xs.length + 1) 0 ∧ Jx pre W')) := by
  refine callsIn_of_wp Try.func47 rfl trivial ?_ rfl
  simp only [Try.ntmps47, List.size_toArray, List.length_cons, List.length_nil, Nat.reduceAdd, Nat.reduceSub, Array.replicate_succ, Array.replicate_zero, List.push_toArray, List.append_toArray, List.nil_append, List.cons_append]
  gi_wp2
  gi_loopw [3] (fun p wr => ∃ (at_ d : Nat) (pre rest : List (Int × Int)), p = .int .i64 at_ ∧ at_ ≤ xs.length ∧ xs.length < d + at_ ∧ Aside (its xs (xs.length + 1) 0 = pre ++ rest) ∧ Aside (rest = its xs d at_) ∧ J pre wr ∧ Below w0.heap.size w0 wr ∧ wr.cell? ⟨Bn, 0, none⟩ = some (.slice A xs.length c))
    (fun p wr => xs.length - (intOf p).toNat)
  case atStart =>
    exact ⟨0, xs.length + 1, [], _, rfl, by omega, by omega, rfl, rfl, h0, hW, hcell⟩
  case round =>
    obtain ⟨at_, d, pre, rest, rfl, hat, hd, hpre, hrest, hJs, hBw, hc⟩ := hrel
    obtain ⟨d, rfl⟩ : ∃ d', d = d' + 1 := ⟨d - 1, by omega⟩
    have hCr := Kd.C_below hC hBw
    obtain ⟨i0, hi0, _, hsz, _⟩ := info_parts info5
    obtain ⟨A', hcut, hA, hcc⟩ := print_drop_of (P := Try.prog) (Value.int .u8) 0 23 5 .i64 Try.underlying23 hi0 hsz A c xs (at_ : Int) (by omega) (by omega) hcap
    simp only [Int.toNat_natCast] at hcut hA hcc
    have hC' : Kd.C (Kd.int .u8) wr A' (xs.drop at_).length (xs.drop at_) := Kd.C_of_reads (h1 := fun _ => rfl) (hA _ (Kd.reads_of_C hCr))
    obtain ⟨q, hq⟩ := (int_ev (xs.drop at_) (hb.drop at_) (by simp; omega)).rounds
    have hyb := hb.drop at_
    have hyl : (xs.drop at_).length = xs.length - at_ := List.length_drop
    have hrest2 : rest = if (P (xs.drop at_)).2.2 = 0 then ((at_ : Int), (P (xs.drop at_)).1) :: its xs d (at_ + (P (xs.drop at_)).2.1.toNat) else [] := hrest.out
    clear hA hCr
    generalize xs.drop at_ = ys at *
    obtain ⟨⟨n, k, e⟩, hP⟩ : ∃ p, P ys = p := ⟨_, rfl⟩
    rw [hP] at hq hrest2
    simp only at hrest2
    have hJd : ∀ nd, J pre (wr.drewN nd) := fun nd => hJ pre wr _ none hJs (grown_drewN _ _) (fun r e => by cases e)
    by_cases ce : e = 0
    · subst ce
      obtain ⟨hi, hk, hkl, _⟩ := P_ok hyb hP
      have hk8 := kw_le hi
      rw [if_pos rfl] at hrest2
      have hlen2 : pre.length < (its xs (xs.length + 1) 0).length := by rw [hpre.out, hrest2]; simp
      have hyl2 := Aside.out (p := ys.length = xs.length - at_) hyl
      have A1 : Aside (ys.length = xs.length - at_ ∧ k = 1 + (kw n : Int) ∧ 1 + kw n ≤ ys.length) := ⟨hyl, hk, hkl⟩
      have A2 : Aside (rest = ((at_ : Int), n) :: its xs d (at_ + k.toNat)) := hrest2
      clear hyl hyl2 hrest2 hk hkl hP hrest hJs
      have hA3 := Aside0.mk hq
      clear hq
      gi_wp2_with (refine ⟨trivial, ?_⟩; gi_at_call 19; refine (callsIn_wide.2 (codec_Int.calls q A' _ ys n k 0 _ hC' hcc hA3.out)).mono ?_; rintro e' w' ⟨rfl, ⟨nd, rfl⟩⟩; obtain ⟨fn, tmps, assign, body, hy, hR⟩ := hY pre ((at_ : Int), n) (wr.drewN nd) (hJd nd) hlen2; dsimp only at hy)
      refine hR.mono ?_
      rintro e W3 (⟨rfl, hJ3, hk3⟩ | ⟨rfl, hJx3⟩)
      · gi_wp2
        go_roundw
        case rel =>
          obtain ⟨h1, h2, h3⟩ := A1.out
          refine ⟨at_ + k.toNat, d, pre ++ [((at_ : Int), n)], _, ?_, by omega, by omega, ?_, rfl, hJ3, ?_, ?_⟩
          · rw [wr1 (by omega) (by omega)]
            congr 1
            omega
          · show its xs (xs.length + 1) 0 = _
            rw [hpre.out, A2.out]
            simp
          · exact (show Below w0.heap.size w0 (wr.drewN nd) from ⟨hBw.os, hBw.tape, hBw.output, hBw.size, hBw.block⟩).trans hk3.1
          · exact (World.cell?_of_block (w := wr.drewN nd) (a := ⟨Bn, 0, none⟩) hk3.2).trans hc
        case measure =>
          obtain ⟨h1, h2, h3⟩ := A1.out
          rw [wr1 (by omega) (by omega)]
          simp only [intOf]
          omega
      · gi_wp2
        refine bodyPost_ret (results_none rfl _ _ _) rfl ?_
        exact ⟨⟨_, rfl⟩, .inr ⟨pre ++ [((at_ : Int), n)], ⟨its xs d (at_ + k.toNat), by rw [hpre.out, A2.out]; simp⟩, hJx3⟩⟩
    · rw [if_neg ce] at hrest2
      have A2 : Aside (rest = []) := hrest2
      have ce1 : (e != 0) = true := bne_iff_ne.mpr ce
      clear hyl hrest2 hrest hP hJs
      have hA3 := Aside0.mk hq
      clear hq
      gi_wp2_with (refine ⟨trivial, ?_⟩; gi_at_call 19; refine (callsIn_wide.2 (codec_Int.calls q A' _ ys n k e _ hC' hcc hA3.out)).mono ?_; rintro e' w' ⟨rfl, ⟨nd, rfl⟩⟩; have hJf := hJd nd)
      refine ⟨fun _ h => (by cases h), ?_⟩
      gi_wp2
      refine bodyPost_ret (results_none rfl _ _ _) rfl ?_
      exact ⟨⟨_, rfl⟩, .inl ⟨pre, by rw [hpre.out, A2.out, List.append_nil], hJf⟩⟩
theorem ints42 (m : Nat) (A : Option Addr) (n c : Nat) (w : World) : CallsIn Fence.wide m Try.prog 42 #[.slice A n c] w fun e w' => e = .returned (.func (.func 47) #[] #[.pointer (some ⟨w.heap.size, 0, none⟩)]) ∧ w' = w.alloc (.cells #[.slice A n c] 23) := by
  refine callsIn_of_wp Try.func42 rfl trivial ?_ rfl
  simp only [Try.ntmps42, List.size_toArray, List.length_cons, List.length_nil, Nat.reduceAdd, Nat.reduceSub, Array.replicate_succ, Array.replicate_zero, List.push_toArray, List.append_toArray, List.nil_append, List.cons_append]
  gi_wp2
  go_ret
  exact ⟨rfl, rfl⟩
/-- what the body knows: the place behind the ints that have come, if they are the right ones -/
def stp (l : List Int) (a : Nat) (x : Int × Int) : Option Nat := if (P (l.drop a)).2.2 = 0 ∧ x.1 = (a : Int) ∧ x.2 = (P (l.drop a)).1 then some (a + (P (l.drop a)).2.1.toNat) else none
def wk (l : List Int) (xs : List (Int × Int)) (o : Option Nat) : Option Nat := xs.foldl (fun o x => o.bind (fun a => stp l a x)) o
theorem wk_app (l : List Int) (xs ys : List (Int × Int)) (o : Option Nat) : wk l (xs ++ ys) o = wk l ys (wk l xs o) := List.foldl_append
theorem wk_none (l : List Int) : ∀ xs, wk l xs none = none
  | [] => rfl
  | _ :: xs => wk_none l xs
theorem its_wk (l : List Int) (hb : Bytes l) : ∀ (d a : Nat), a ≤ l.length → l.length < d + a → ∃ b, wk l (its l d a) (some a) = some b ∧ b ≤ l.length ∧ (P (l.drop b)).2.2 ≠ 0
  | 0, a, h, h2 => by omega
  | d + 1, a, h, h2 => by
    unfold its
    by_cases c : (P (l.drop a)).2.2 = 0
    · rw [if_pos c]
      obtain ⟨⟨n, k, e⟩, hP⟩ : ∃ p, P (l.drop a) = p := ⟨_, rfl⟩
      rw [hP] at c
      simp only at c
      subst c
      obtain ⟨_, h3, h4, _⟩ := P_ok (hb.drop a) hP
      rw [List.length_drop] at h4
      obtain ⟨b, h5, h6, h7⟩ := its_wk l hb d (a + k.toNat) (by omega) (by omega)
      refine ⟨b, ?_, h6, h7⟩
      have : stp l a ((a : Int), (P (l.drop a)).1) = some (a + k.toNat) := by
        unfold stp
        rw [if_pos ⟨by rw [hP], rfl, rfl⟩, hP]
      show wk l _ ((some a).bind (fun a' => stp l a' ((a : Int), (P (l.drop a)).1))) = _
      rw [Option.bind_some, this, hP]
      exact h5
    · rw [if_neg c]
      exact ⟨a, rfl, h, c⟩
theorem css {W : World} {a : Addr} {u v : Value} (h : W.cell? a = some u) : (W.setCell a v).cell? a = some v := World.cell?_setCell_same' _ _ _ (by rw [h]; rfl)
theorem cb {W : World} {B : Nat} {v : Value} {t : TypeId} (h : W.heap[B]? = some (.cells #[v] t (0, 0))) : W.cell? ⟨B, 0, none⟩ = some v ∧ W.frozen? ⟨B, 0, none⟩ = false := by
  constructor <;> simp [World.cell?, World.frozen?, h]
theorem cn (W : World) (v : Value) (t : TypeId) : (W.alloc (.cells #[v] t)).cell? ⟨W.heap.size, 0, none⟩ = some v ∧ (W.alloc (.cells #[v] t)).frozen? ⟨W.heap.size, 0, none⟩ = false := cb (World.alloc_heap_new W _)
theorem ck {W : World} {a : Addr} {v : Value} (o : Obj) (h : W.cell? a = some v) : (W.alloc o).cell? a = some v := cell_kept h (World.grownBy_alloc W o none) (fun r e => by cases e)
theorem fk {W : World} {a : Addr} {v : Value} (o : Obj) (h : W.cell? a = some v) (hf : W.frozen? a = false) : (W.alloc o).frozen? a = false := (frozen_kept h (World.grownBy_alloc W o none) (fun r e => by cases e)).trans hf
theorem ints_stops (Bn : Nat) (A : Option Addr) (c : Nat) (xs : List Int) (hb : Bytes xs) (hlen : xs.length ≤ 140737488355000) (hcap : xs.length ≤ c) (w0 W5 : World) (hB : Below w0.heap.size w0 W5) (hC : (Kd.int .u8).C w0 A xs.length xs) (hBn : Bn < W5.heap.size) (hc : W5.cell? ⟨Bn, 0, none⟩ = some (.slice A xs.length c)) :
    SeqStopsK Fence.wide 3 Try.prog 47 #[.pointer (some ⟨Bn, 0, none⟩)] (fun x : Int × Int => #[.int .i64 x.1, .int .i64 x.2]) (Kp w0.heap.size Bn) (fun ys => ys = its xs (xs.length + 1) 0) (fun pre => pre <+: its xs (xs.length + 1) 0) (its xs (xs.length + 1) 0).length W5 := fun l J Jx W hW hJ _ hY h0 =>
  ints1_in l Bn A c xs hb hlen hcap w0 hC J Jx W (hB.trans (hW.mono hB.size)) ((hW.cell (p := ⟨Bn, 0, none⟩) hBn).trans hc) hJ hY h0
set_option maxRecDepth 100000 in
set_option maxHeartbeats 2000000 in
theorem walks_in (A : Option Addr) (c : Nat) (xs : List Int) (stop : Int) (hb : Bytes xs) (hlen : xs.length ≤ 140737488355000) (hcap : xs.length ≤ c) (w : World) (hC : (Kd.int .u8).C w A xs.length xs) :
    CallsIn Fence.wide 4 Try.prog 25 #[.slice A xs.length c, .int .i64 stop] w fun e W' => e = .returned (.bool true) ∧ Below w.heap.size w W' := by
  refine callsIn_of_wp_marks Try.func25 rfl trivial ?_ rfl
  simp only [Try.ntmps25, List.size_toArray, List.length_cons, List.length_nil, Nat.reduceAdd, Nat.reduceSub, Array.replicate_succ, Array.replicate_zero, List.push_toArray, List.append_toArray, List.nil_append, List.cons_append]
  gi_wp2_with (refine ⟨trivial, ?_⟩; gi_at_call 42; refine (ints42 _ A xs.length c _).mono ?_; rintro e w' ⟨rfl, rfl⟩)
  have c0 := cn w (.slice A xs.length c) 23
  obtain ⟨W1, hW1⟩ : ∃ W1, w.alloc (.cells #[.slice A xs.length c] 23) = W1 := ⟨_, rfl⟩
  rw [hW1] at c0 ⊢
  have s1 : W1.heap.size = w.heap.size + 1 := by rw [← hW1, World.size_alloc]
  have b1 : Below w.heap.size w W1 := by rw [← hW1]; exact (Below.refl _ w).alloc (Nat.le_refl _) _
  have c1 := cn W1 (.int .i64 stop) 3
  replace c0 := And.intro (ck (.cells #[.int .i64 stop] 3) c0.1) (fk (.cells #[.int .i64 stop] 3) c0.1 c0.2)
  have b2 := b1.alloc b1.size (.cells #[.int .i64 stop] 3)
  obtain ⟨W2, hW2⟩ : ∃ W2, W1.alloc (.cells #[.int .i64 stop] 3) = W2 := ⟨_, rfl⟩
  have s2 : W2.heap.size = w.heap.size + 1 + 1 := by rw [← hW2, World.size_alloc, s1]
  rw [hW2] at c0 c1 b2 ⊢
  have c2 := cn W2 (.bool false) 4
  replace c0 := And.intro (ck (.cells #[.bool false] 4) c0.1) (fk (.cells #[.bool false] 4) c0.1 c0.2)
  replace c1 := And.intro (ck (.cells #[.bool false] 4) c1.1) (fk (.cells #[.bool false] 4) c1.1 c1.2)
  have b3 := b2.alloc b2.size (.cells #[.bool false] 4)
  obtain ⟨W3, hW3⟩ : ∃ W3, W2.alloc (.cells #[.bool false] 4) = W3 := ⟨_, rfl⟩
  have s3 : W3.heap.size = w.heap.size + 1 + 1 + 1 := by rw [← hW3, World.size_alloc, s2]
  rw [hW3] at c0 c1 c2 b3 ⊢
  have c3 := cn W3 (.int .i64 0) 3
  replace c0 := And.intro (ck (.cells #[.int .i64 0] 3) c0.1) (fk (.cells #[.int .i64 0] 3) c0.1 c0.2)
  replace c1 := And.intro (ck (.cells #[.int .i64 0] 3) c1.1) (fk (.cells #[.int .i64 0] 3) c1.1 c1.2)
  replace c2 := And.intro (ck (.cells #[.int .i64 0] 3) c2.1) (fk (.cells #[.int .i64 0] 3) c2.1 c2.2)
  have b4 := b3.alloc b3.size (.cells #[.int .i64 0] 3)
  obtain ⟨W4, hW4⟩ : ∃ W4, W3.alloc (.cells #[.int .i64 0] 3) = W4 := ⟨_, rfl⟩
  have s4 : W4.heap.size = w.heap.size + 1 + 1 + 1 + 1 := by rw [← hW4, World.size_alloc, s3]
  rw [hW4] at c0 c1 c2 c3 b4 ⊢
  have c4 := cn W4 (.int .i64 0) 3
  replace c0 := And.intro (ck (.cells #[.int .i64 0] 3) c0.1) (fk (.cells #[.int .i64 0] 3) c0.1 c0.2)
  replace c1 := And.intro (ck (.cells #[.int .i64 0] 3) c1.1) (fk (.cells #[.int .i64 0] 3) c1.1 c1.2)
  replace c2 := And.intro (ck (.cells #[.int .i64 0] 3) c2.1) (fk (.cells #[.int .i64 0] 3) c2.1 c2.2)
  replace c3 := And.intro (ck (.cells #[.int .i64 0] 3) c3.1) (fk (.cells #[.int .i64 0] 3) c3.1 c3.2)
  have b5 := b4.alloc b4.size (.cells #[.int .i64 0] 3)
  obtain ⟨W5, hW5⟩ : ∃ W5, W4.alloc (.cells #[.int .i64 0] 3) = W5 := ⟨_, rfl⟩
  have s5 : W5.heap.size = w.heap.size + 1 + 1 + 1 + 1 + 1 := by rw [← hW5, World.size_alloc, s4]
  rw [hW5] at c0 c1 c2 c3 c4 b5 ⊢
  have c5 := cn W5 (.slice A xs.length c) 23
  replace c0 := And.intro (ck (.cells #[.slice A xs.length c] 23) c0.1) (fk (.cells #[.slice A xs.length c] 23) c0.1 c0.2)
  replace c1 := And.intro (ck (.cells #[.slice A xs.length c] 23) c1.1) (fk (.cells #[.slice A xs.length c] 23) c1.1 c1.2)
  replace c2 := And.intro (ck (.cells #[.slice A xs.length c] 23) c2.1) (fk (.cells #[.slice A xs.length c] 23) c2.1 c2.2)
  replace c3 := And.intro (ck (.cells #[.slice A xs.length c] 23) c3.1) (fk (.cells #[.slice A xs.length c] 23) c3.1 c3.2)
  replace c4 := And.intro (ck (.cells #[.slice A xs.length c] 23) c4.1) (fk (.cells #[.slice A xs.length c] 23) c4.1 c4.2)
  have b6 := b5.alloc b5.size (.cells #[.slice A xs.length c] 23)
  obtain ⟨W6, hW6⟩ : ∃ W6, W5.alloc (.cells #[.slice A xs.length c] 23) = W6 := ⟨_, rfl⟩
  have s6 : W6.heap.size = w.heap.size + 1 + 1 + 1 + 1 + 1 + 1 := by rw [← hW6, World.size_alloc, s5]
  rw [hW6] at c0 c1 c2 c3 c4 c5 b6 ⊢
  rw [s1] at c1
  rw [s2] at c2
  rw [s3] at c3
  rw [s4] at c4
  rw [s5] at c5
  clear b1 b2 b3 b4 b5 hW1 hW2 hW3 hW4 hW5 hW6 s1 s2 s3 s4 s5
  clear W1 W2 W3 W4 W5
  have hkb : ∀ (W : World) (l : Nat) (o o' : Obj), W6.heap.size ≤ l → W.heap[l]? = some o → o.isCells = false → o.isWalk = false → Kp w.heap.size (w.heap.size + 1 + 1 + 1 + 1 + 1) W (W.putObj l o') :=
    fun W l o o' hl h h1 h2 => ⟨belowK_b b6.size W l o o' hl h h1 h2, World.putObj_heap_other (by omega)⟩
  refine wpIn_rangeFunc_ownF rfl (by omega) (gf := 47) (lb := #[.pointer (some ⟨w.heap.size + 1 + 1 + 1 + 1 + 1, 0, none⟩)]) rfl trivial (enters_of Try.func47 (by kernel_rfl) rfl)
    (ints_stops (w.heap.size + 1 + 1 + 1 + 1 + 1) A c xs hb hlen hcap w W6 b6 hC (by omega) c5.1) Kp.trans hkb (Below.refl _ _) (fun _ => rfl)
    (fun pre W => (∃ a : Nat, wk xs pre (some 0) = some a ∧ a ≤ xs.length ∧ pre.length ≤ a ∧ W.cell? ⟨w.heap.size, 0, none⟩ = some (.slice A xs.length c) ∧ W.cell? ⟨w.heap.size + 1, 0, none⟩ = some (.int .i64 stop) ∧ W.cell? ⟨w.heap.size + 1 + 1, 0, none⟩ = some (.bool false) ∧ W.frozen? ⟨w.heap.size + 1 + 1, 0, none⟩ = false ∧ W.cell? ⟨w.heap.size + 1 + 1 + 1, 0, none⟩ = some (.int .i64 a) ∧ W.frozen? ⟨w.heap.size + 1 + 1 + 1, 0, none⟩ = false ∧ W.cell? ⟨w.heap.size + 1 + 1 + 1 + 1, 0, none⟩ = some (.int .i64 pre.length) ∧ W.frozen? ⟨w.heap.size + 1 + 1 + 1 + 1, 0, none⟩ = false) ∧ Below w.heap.size w W)
    (fun c pre W => (c = .ret ∧ (wk xs pre (some 0) = none ∨ W.cell? ⟨w.heap.size + 1 + 1, 0, none⟩ = some (.bool true))) ∧ Below w.heap.size w W)
    (OwnFrom.and (Own.from (fun s A' B row hs hg hr => by
      obtain ⟨a, h1, h2, h3, g0, g1, g2, y2, g3, y3, g4, y4⟩ := hs
      exact ⟨a, h1, h2, h3, cell_kept g0 hg hr, cell_kept g1 hg hr, cell_kept g2 hg hr, (frozen_kept g2 hg hr).trans y2, cell_kept g3 hg hr, (frozen_kept g3 hg hr).trans y3, cell_kept g4 hg hr, (frozen_kept g4 hg hr).trans y4⟩) _) (ownFrom_below (Nat.le_refl _) (by omega)))
    (fun c => OwnFrom.and (Own.from (fun s A' B row hs hg hr => ⟨hs.1, hs.2.imp id (fun h => cell_kept h hg hr)⟩) _) (ownFrom_below (Nat.le_refl _) (by omega)))
    ⟨⟨0, rfl, by omega, by simp, c0.1, c1.1, c2.1, c2.2, c3.1, c3.2, c4.1, c4.2⟩, b6⟩
    (fun x => { tmps := #[.slice A xs.length c, .int .i64 stop, .pointer (some ⟨w.heap.size, 0, none⟩), .pointer (some ⟨w.heap.size + 1, 0, none⟩), .pointer (some ⟨w.heap.size + 1 + 1, 0, none⟩), .pointer (some ⟨w.heap.size + 1 + 1 + 1, 0, none⟩), .pointer (some ⟨w.heap.size + 1 + 1 + 1 + 1, 0, none⟩), .int .i64 x.1, .int .i64 x.2, undef, undef, undef, undef, undef, undef, .slice A xs.length c, .func (.func 47) #[] #[.pointer (some ⟨w.heap.size + 1 + 1 + 1 + 1 + 1, 0, none⟩)], .int .i64 x.1, .int .i64 x.2, undef, undef, undef, undef, undef, undef, undef, undef, undef, undef, undef, undef, undef, undef, undef, undef, undef, undef, undef, undef, undef, undef, undef, undef, undef, undef, undef, undef, undef, undef, undef, undef, undef, undef, undef, undef, undef, undef], defers := [] }) ?assign ?body ?done ?stop
  case assign =>
    intro l x W K hK
    gi_wp2
    exact hK
  case body =>
    rintro l pre ⟨x1, x2⟩ W ⟨⟨a, hwk, hal, hpl, g0, g1, g2, y2, g3, y3, g4, y4⟩, hB⟩ _
    have hCr := Kd.C_below hC hB
    obtain ⟨i0, hi0, _, hsz, _⟩ := info_parts info5
    obtain ⟨A', hcut, hA, hcc⟩ := print_drop_of (P := Try.prog) (Value.int .u8) 0 23 5 .i64 Try.underlying23 hi0 hsz A c xs (a : Int) (by omega) (by omega) hcap
    simp only [Int.toNat_natCast] at hcut hA hcc
    have hC' : Kd.C (Kd.int .u8) W A' (xs.drop a).length (xs.drop a) := Kd.C_of_reads (h1 := fun _ => rfl) (hA _ (Kd.reads_of_C hCr))
    obtain ⟨q, hq⟩ := (parse_ev (xs.drop a) (hb.drop a) (by simp; omega)).rounds
    have hyb := hb.drop a
    have hyl : (xs.drop a).length = xs.length - a := List.length_drop
    have hst : stp xs a (x1, x2) = if (P (xs.drop a)).2.2 = 0 ∧ x1 = (a : Int) ∧ x2 = (P (xs.drop a)).1 then some (a + (P (xs.drop a)).2.1.toNat) else none := rfl
    have hsn : wk xs (pre ++ [(x1, x2)]) (some 0) = stp xs a (x1, x2) := by rw [wk_app, hwk]; rfl
    rw [hst] at hsn
    clear hA hCr hst
    generalize xs.drop a = ys at *
    obtain ⟨⟨n, k, e⟩, hP⟩ : ∃ p, P ys = p := ⟨_, rfl⟩
    rw [hP] at hq hsn
    simp only at hsn
    have hA3 := Aside0.mk hq
    clear hq hwk
    by_cases good : e = 0 ∧ x1 = (a : Int) ∧ x2 = n
    · obtain ⟨rfl, rfl, rfl⟩ := good
      obtain ⟨hi, hk, hkl, _⟩ := P_ok hyb hP
      have hk8 := kw_le hi
      rw [if_pos ⟨rfl, rfl, rfl⟩] at hsn
      have A1 : Aside (ys.length = xs.length - a ∧ k = 1 + (kw x2 : Int) ∧ 1 + kw x2 ≤ ys.length) := ⟨hyl, hk, hkl⟩
      have A2 : Aside (wk xs (pre ++ [((a : Int), x2)]) (some 0) = some (a + k.toNat)) := hsn
      have hwl : wrap64 ((a : Int) + k) = ((a + k.toNat : Nat) : Int) := by rw [wr1 (by omega) (by omega)]; omega
      have A3 := Aside0.mk hwl
      clear hyl hsn hk hkl hP hwl
      gi_wp2_with (refine ⟨trivial, ?_⟩; gi_at_call 20; refine (CallsIn.inRound l (callsIn_wide.2 (cressetref01_ParseInt.calls q A' _ ys x2 k 0 _ hC' hcc hA3.out))).mono ?_; rintro e' w' ⟨rfl, ⟨nd, rfl⟩⟩)
      · rw [A3.out]
        obtain ⟨Wd, hWd⟩ : ∃ Wd, W.drewN nd = Wd := ⟨_, rfl⟩
        have hKO : KeepsOthers W Wd := by rw [← hWd]; exact ⟨Nat.le_refl _, fun _ _ h _ => h⟩
        have hBd : Below w.heap.size w Wd := by rw [← hWd]; exact pw_below_drewN hB nd
        have hBW : Below w.heap.size W Wd := by rw [← hWd]; exact pw_below_drewN (Below.refl _ _) nd
        have hHd : Wd.heap[w.heap.size + 1 + 1 + 1 + 1 + 1]? = W.heap[w.heap.size + 1 + 1 + 1 + 1 + 1]? := by rw [← hWd]; rfl
        have d0 : Wd.cell? ⟨w.heap.size, 0, none⟩ = some (.slice A xs.length c) := by rw [← hWd]; exact g0
        have d1 : Wd.cell? ⟨w.heap.size + 1, 0, none⟩ = some (.int .i64 stop) := by rw [← hWd]; exact g1
        have d2 : Wd.cell? ⟨w.heap.size + 1 + 1, 0, none⟩ = some (.bool false) := by rw [← hWd]; exact g2
        have d3 : Wd.cell? ⟨w.heap.size + 1 + 1 + 1, 0, none⟩ = some (.int .i64 a) := by rw [← hWd]; exact g3
        have d4 : Wd.cell? ⟨w.heap.size + 1 + 1 + 1 + 1, 0, none⟩ = some (.int .i64 pre.length) := by rw [← hWd]; exact g4
        have z2 : Wd.frozen? ⟨w.heap.size + 1 + 1, 0, none⟩ = false := by rw [← hWd]; exact y2
        have z3 : Wd.frozen? ⟨w.heap.size + 1 + 1 + 1, 0, none⟩ = false := by rw [← hWd]; exact y3
        have z4 : Wd.frozen? ⟨w.heap.size + 1 + 1 + 1 + 1, 0, none⟩ = false := by rw [← hWd]; exact y4
        rw [hWd]
        refine ⟨((hKO.trans (KeepsOthers.setCell _ _ _)).trans (KeepsOthers.setCell _ _ _)).trans (KeepsOthers.setCell _ _ _), ⟨rfl, .inr ?_⟩, ((hBd.setCell (show w.heap.size ≤ w.heap.size + 1 + 1 + 1 by omega) _).setCell (show w.heap.size ≤ w.heap.size + 1 + 1 + 1 + 1 by omega) _).setCell (show w.heap.size ≤ w.heap.size + 1 + 1 by omega) _⟩
        exact css (u := .bool false) (by rw [World.cell?_setCell_far _ _ _ _ (show w.heap.size + 1 + 1 + 1 + 1 ≠ w.heap.size + 1 + 1 by omega), World.cell?_setCell_far _ _ _ _ (show w.heap.size + 1 + 1 + 1 ≠ w.heap.size + 1 + 1 by omega)]; exact d2)
      · rw [A3.out]
        obtain ⟨Wd, hWd⟩ : ∃ Wd, W.drewN nd = Wd := ⟨_, rfl⟩
        have hKO : KeepsOthers W Wd := by rw [← hWd]; exact ⟨Nat.le_refl _, fun _ _ h _ => h⟩
        have hBd : Below w.heap.size w Wd := by rw [← hWd]; exact pw_below_drewN hB nd
        have hBW : Below w.heap.size W Wd := by rw [← hWd]; exact pw_below_drewN (Below.refl _ _) nd
        have hHd : Wd.heap[w.heap.size + 1 + 1 + 1 + 1 + 1]? = W.heap[w.heap.size + 1 + 1 + 1 + 1 + 1]? := by rw [← hWd]; rfl
        have d0 : Wd.cell? ⟨w.heap.size, 0, none⟩ = some (.slice A xs.length c) := by rw [← hWd]; exact g0
        have d1 : Wd.cell? ⟨w.heap.size + 1, 0, none⟩ = some (.int .i64 stop) := by rw [← hWd]; exact g1
        have d2 : Wd.cell? ⟨w.heap.size + 1 + 1, 0, none⟩ = some (.bool false) := by rw [← hWd]; exact g2
        have d3 : Wd.cell? ⟨w.heap.size + 1 + 1 + 1, 0, none⟩ = some (.int .i64 a) := by rw [← hWd]; exact g3
        have d4 : Wd.cell? ⟨w.heap.size + 1 + 1 + 1 + 1, 0, none⟩ = some (.int .i64 pre.length) := by rw [← hWd]; exact g4
        have z2 : Wd.frozen? ⟨w.heap.size + 1 + 1, 0, none⟩ = false := by rw [← hWd]; exact y2
        have z3 : Wd.frozen? ⟨w.heap.size + 1 + 1 + 1, 0, none⟩ = false := by rw [← hWd]; exact y3
        have z4 : Wd.frozen? ⟨w.heap.size + 1 + 1 + 1 + 1, 0, none⟩ = false := by rw [← hWd]; exact y4
        rw [hWd]
        obtain ⟨k1, k2, k3⟩ := A1.out
        have el : ((pre ++ [((a : Int), x2)]).length : Int) = (pre.length : Int) + 1 := by simp
        refine ⟨(hKO.trans (KeepsOthers.setCell _ _ _)).trans (KeepsOthers.setCell _ _ _), ⟨(hBW.setCell (show w.heap.size ≤ w.heap.size + 1 + 1 + 1 by omega) _).setCell (show w.heap.size ≤ w.heap.size + 1 + 1 + 1 + 1 by omega) _, ?_⟩, ⟨a + k.toNat, A2.out, by omega, by simp; omega, ?_, ?_, ?_, ?_, ?_, ?_, ?_, ?_⟩, (hBd.setCell (show w.heap.size ≤ w.heap.size + 1 + 1 + 1 by omega) _).setCell (show w.heap.size ≤ w.heap.size + 1 + 1 + 1 + 1 by omega) _⟩
        · rw [Go.Deep.blk_setCell_other _ _ _ _ (show w.heap.size + 1 + 1 + 1 + 1 + 1 ≠ w.heap.size + 1 + 1 + 1 + 1 by omega), Go.Deep.blk_setCell_other _ _ _ _ (show w.heap.size + 1 + 1 + 1 + 1 + 1 ≠ w.heap.size + 1 + 1 + 1 by omega)]
          exact hHd
        · rw [World.cell?_setCell_far _ _ _ _ (show w.heap.size + 1 + 1 + 1 + 1 ≠ w.heap.size by omega), World.cell?_setCell_far _ _ _ _ (show w.heap.size + 1 + 1 + 1 ≠ w.heap.size by omega)]; exact d0
        · rw [World.cell?_setCell_far _ _ _ _ (show w.heap.size + 1 + 1 + 1 + 1 ≠ w.heap.size + 1 by omega), World.cell?_setCell_far _ _ _ _ (show w.heap.size + 1 + 1 + 1 ≠ w.heap.size + 1 by omega)]; exact d1
        · rw [World.cell?_setCell_far _ _ _ _ (show w.heap.size + 1 + 1 + 1 + 1 ≠ w.heap.size + 1 + 1 by omega), World.cell?_setCell_far _ _ _ _ (show w.heap.size + 1 + 1 + 1 ≠ w.heap.size + 1 + 1 by omega)]; exact d2
        · rw [World.frozen?_setCell, World.frozen?_setCell]; exact z2
        · rw [World.cell?_setCell_far _ _ _ _ (show w.heap.size + 1 + 1 + 1 + 1 ≠ w.heap.size + 1 + 1 + 1 by omega)]; exact css d3
        · rw [World.frozen?_setCell, World.frozen?_setCell]; exact z3
        · rw [el]; exact css (u := .int .i64 pre.length) (by rw [World.cell?_setCell_far _ _ _ _ (show w.heap.size + 1 + 1 + 1 ≠ w.heap.size + 1 + 1 + 1 + 1 by omega)]; exact d4)
        · rw [World.frozen?_setCell, World.frozen?_setCell]; exact z4
    · rw [if_neg good] at hsn
      have A2 : Aside (wk xs (pre ++ [(x1, x2)]) (some 0) = none) := hsn
      clear hyl hsn hP
      gi_wp2_with (refine ⟨trivial, ?_⟩; gi_at_call 20; refine (CallsIn.inRound l (callsIn_wide.2 (cressetref01_ParseInt.calls q A' _ ys n k e _ hC' hcc hA3.out))).mono ?_; rintro e' w' ⟨rfl, ⟨nd, rfl⟩⟩)
      all_goals
        refine ⟨(show KeepsOthers W (W.drewN nd) from ⟨Nat.le_refl _, fun _ _ h _ => h⟩).trans (KeepsOthers.setCell _ _ _), ⟨rfl, .inl A2.out⟩, (pw_below_drewN hB nd).setCell (show w.heap.size ≤ w.heap.size + 1 + 1 by omega) _⟩
  case done =>
    rintro D ys W hD rfl ⟨⟨a, hwk, hal, hpl, g0, g1, g2, y2, g3, y3, g4, y4⟩, hB⟩ hK
    have hCr := Kd.C_below hC hB
    obtain ⟨i0, hi0, _, hsz, _⟩ := info_parts info5
    obtain ⟨A', hcut, hA, hcc⟩ := print_drop_of (P := Try.prog) (Value.int .u8) 0 23 5 .i64 Try.underlying23 hi0 hsz A c xs (a : Int) (by omega) (by omega) hcap
    simp only [Int.toNat_natCast] at hcut hA hcc
    have hC' : Kd.C (Kd.int .u8) W A' (xs.drop a).length (xs.drop a) := Kd.C_of_reads (h1 := fun _ => rfl) (hA _ (Kd.reads_of_C hCr))
    obtain ⟨q, hq⟩ := (parse_ev (xs.drop a) (hb.drop a) (by simp; omega)).rounds
    obtain ⟨b, hw, _, hne⟩ := its_wk xs hb (xs.length + 1) 0 (by omega) (by omega)
    rw [hwk] at hw
    obtain rfl := Option.some.inj hw
    clear hA hCr hw hwk
    generalize xs.drop a = ys at *
    obtain ⟨⟨n, k, e⟩, hP⟩ : ∃ p, P ys = p := ⟨_, rfl⟩
    rw [hP] at hq hne
    simp only at hne
    have ce1 : (e != 0) = true := bne_iff_ne.mpr hne
    have hA3 := Aside0.mk hq
    clear hq hP hne
    gi_wp2_with (refine ⟨trivial, ?_⟩; gi_at_call 20; refine (callsIn_wide.2 (cressetref01_ParseInt.calls q A' _ ys n k e _ hC' hcc hA3.out)).mono ?_; rintro e' w' ⟨rfl, ⟨nd, rfl⟩⟩)
    have hKd : (W.drewN nd).heap[D]? = some (.deferred (some [])) := hK
    have hK' := (KeepsOthers.setCell (W.drewN nd) ⟨w.heap.size + 1 + 1, 0, none⟩ (.bool true)).same D _ hKd rfl
    refine ⟨by simp, .inl ⟨_, _, rfl, run_takeDeferred hK', ?_⟩⟩
    have hcs : ((W.drewN nd).setCell ⟨w.heap.size + 1 + 1, 0, none⟩ (.bool true)).cell? ⟨w.heap.size + 1 + 1, 0, none⟩ = some (.bool true) := css g2
    have hc5 := cell_kept hcs (grownBy_putObj' _ D (.deferred none)) (fun r e => by cases e; exact ⟨_, hK', rfl⟩)
    refine ⟨.bool true, ?_, rfl, ((pw_below_drewN hB nd).setCell (p := ⟨w.heap.size + 1 + 1, 0, none⟩) (show w.heap.size ≤ w.heap.size + 1 + 1 by omega) _).trans (belowK_b (w := w) (Nat.le_refl _) _ D _ _ (by omega) hK' rfl rfl)⟩
    simp [results, Try.f25, go_sem, hc5]
  case stop =>
    rintro D c' pre W hD hpre ⟨⟨rfl, hor⟩, hB⟩ hK
    have hcr : W.cell? ⟨w.heap.size + 1 + 1, 0, none⟩ = some (.bool true) := by
      rcases hor with hor | hor
      · obtain ⟨t, ht⟩ := hpre
        obtain ⟨b, hw, _⟩ := its_wk xs hb (xs.length + 1) 0 (by omega) (by omega)
        rw [← ht, wk_app, hor, wk_none] at hw
        cases hw
      · exact hor
    gi_wp2
    refine ⟨by simp, .inl ⟨_, _, rfl, run_takeDeferred hK, ?_⟩⟩
    have hc5 := cell_kept hcr (grownBy_putObj' _ D (.deferred none)) (fun r e => by cases e; exact ⟨_, hK, rfl⟩)
    refine ⟨.bool true, ?_, rfl, hB.trans (belowK_b (w := w) (Nat.le_refl _) W D _ _ (by omega) hK rfl rfl)⟩
    simp [results, Try.f25, go_sem, hc5]
end Go.Proofs.Ytphdinelioendaa.Walk

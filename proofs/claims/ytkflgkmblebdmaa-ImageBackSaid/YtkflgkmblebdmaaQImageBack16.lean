/-
Of the row ImageBack: printed walks and plain laws, merged (wip/claim2.py).
-/
import Derived.Test.YtkflgkmblebdmaaQImageBack4
import Derived.Test.YtkflgkmblebdmaaQImageBack5
import Derived.Test.YtkflgkmblebdmaaQImageBack10
import Derived.Test.YtkflgkmblebdmaaQImageBack12
import Derived.Test.YtkflgkmblebdmaaQImageBack14
import Derived.Test.YtkflgkmblebdmaaQImageBack15
set_option linter.unusedVariables false
set_option linter.unusedSimpArgs false
namespace Go.Proofs.Ytkflgkmblebdmaa.Im
open Go.RowKit Go.Shelf Go.Proofs.Ytkflgkmblebdmaa.B Go.Proofs.YtkflgkmblebdmaaW.PrintWords Go.Proofs.YtkflgkmblebdmaaW.PrintLast Go.Proofs.YtkflgkmblebdmaaW.PrintMore Go.Proofs.YtkflgkmblebdmaaW.Mine Go.Proofs.YtkflgkmblebdmaaW.Hp
theorem al0 (w : World) (o : Obj) : Below w.heap.size w (w.alloc o) := (Below.refl _ w).alloc (Nat.le_refl _) _
theorem obj_new {w0 w : World} {L : List (Nat × Asn)} (H : Hp w0 w L) (m : Nat) (o : Obj) : Hp w0 (w.alloc o) (L ++ [(m, Asn.obj w.heap.size o)]) :=
  H.new m (al0 w o) ⟨World.alloc_heap_new w o, Nat.le_refl _⟩
def v56 (x : S56) : Value := .agg #[.string x.f0, .string x.f1, .int .i64 x.f2]
set_option maxRecDepth 100000 in
set_option maxHeartbeats 4000000 in
theorem in67v (l b m : Nat) (A : Option Addr) (c : Nat) (cs : List S56) (J Jx : Nat → World → Prop) (W : World)
    (hJ : ∀ i W, J i W → W.cell? ⟨b, 0, none⟩ = some (.slice A cs.length c) ∧ Kd.C k56 W A cs.length cs)
    (hJb : ∀ i W W', J i W → Below W.heap.size W W' → J i W')
    (hY : ∀ (i : Nat) (W0 : World), i < cs.length → J i W0 → YieldAt Fence.wide m Try.prog l #[v56 (rd_T56 cs (i : Int))] W0 fun e W' => ∃ b5 : Bool, e = .returned (.bool b5) ∧ ((b5 = true ∧ J (i + 1) W') ∨ (b5 = false ∧ Jx i W')))
    (h0 : J 0 W) :
    CallsIn Fence.wide (m + 1) Try.prog 67 #[.func (.yield l) #[] #[], .pointer (some ⟨b, 0, none⟩)] W fun e W' => (∃ v, e = .returned v) ∧ (J cs.length W' ∨ ∃ i, i < cs.length ∧ Jx i W') := by
  refine callsIn_of_wp Try.func67 rfl trivial ?_ rfl
  simp only [Try.ntmps67, List.size_toArray, List.length_cons, List.length_nil, Nat.reduceAdd, Nat.reduceSub, Array.replicate_succ, Array.replicate_zero, List.push_toArray, List.append_toArray, List.nil_append, List.cons_append]
  obtain ⟨hcell, hC⟩ := hJ 0 W h0
  have hmx : cs.length ≤ 9223372036854775807 := hC.2.1
  have HJ := Aside0.mk hJ
  have HB := Aside0.mk hJb
  have HY := Aside0.mk hY
  clear hJ hJb hY hC
  gi_wp2
  gi_loopw [7] (fun p wr => ∃ i : Nat, p = .int .i64 i ∧ i ≤ cs.length ∧ J i wr) (fun p _ => cs.length - (intOf p).toNat)
  case atStart => exact ⟨0, rfl, Nat.zero_le _, h0⟩
  case round =>
    clear h0 hcell
    obtain ⟨i, rfl, hil, hJi⟩ := hrel
    by_cases hlt : i < cs.length
    · have hltz : (i : Int) < (cs.length : Int) := by omega
      obtain ⟨ad, e1, x0, x1, x2⟩ := at_T56 (HJ.out i wr hJi).2 (i : Int) (by omega) hltz
      cases e1
      rw [Int.toNat_natCast] at x0 x1 x2
      have HYi := Aside0.mk (HY.out i)
      generalize rd_T56 cs (i : Int) = x at x0 x1 x2 HYi
      obtain ⟨fn, tmps, assign, body, hy, hRd⟩ := HYi.out (wr.alloc (.cells #[.string x.f0, .string x.f1, .int .i64 x.f2] 56)) hlt (HB.out i _ _ hJi (al0 _ _))
      unfold v56 at hy
      have HRd := Aside0.mk hRd
      clear hRd hJi
      gi_wp2
      refine HRd.out.mono ?_
      rintro e W5 ⟨b5, rfl, hE⟩
      rcases hE with ⟨rfl, hJ5⟩ | ⟨rfl, hJ5⟩
      · gi_wp2
        go_roundw
        case rel => exact ⟨i + 1, by go_num, by omega, hJ5⟩
        case measure => simp [intOf]; omega
      · gi_wp2
        exact bodyPost_ret (results_none rfl _ _ _) rfl ⟨⟨_, rfl⟩, .inr ⟨i, hlt, hJ5⟩⟩
    · have hle : i = cs.length := by omega
      subst hle
      have hltz : ¬ (cs.length : Int) < (cs.length : Int) := by omega
      gi_wp2
      exact bodyPost_end (results_none rfl _ _ _) rfl ⟨⟨_, rfl⟩, .inl hJi⟩
def isIt (g : Nat) (A : Option Addr) (c : Nat) (l : List S56) : Asn := Asn.star (Asn.box g #[.slice A l.length c] 38) (Asn.row k56 56 (.slice A l.length c) l)
theorem km56 : ∀ (w : World) x cs, k56.K w x cs → ∀ w' ok, k56.M w' 0 ok x cs := by
  intro w x cs h w' ok
  obtain rfl := k56_open h
  exact k56_mkM _ _ _ _
set_option maxHeartbeats 4000000 in
set_option maxRecDepth 100000 in
theorem pairs_tr (b : Nat) (s : S) (hl : s.l.length ≤ 65536) : Tr Try.prog 25 #[.pointer (some ⟨b, 0, none⟩)] Asn.top (isImg b s) (fun r => Asn.ex fun x : Nat × Option Addr × Nat => Asn.and (Asn.lift (r = .func (.func 67) #[] #[.pointer (some ⟨x.1, 0, none⟩)])) (Asn.star (isImg b s) (isIt x.1 x.2.1 x.2.2 s.l))) := by
  refine Tr.intro fun w U H0 => ?_
  obtain ⟨v, H1⟩ := H0.open_ 2 rfl
  have H : Hp w w [(0, Asn.old w U), (0, Asn.top), (1, Asn.box b #[.int .i64 s.ts, .string s.fr, v, .bool true] 48), (2, Asn.row k56 56 v s.l)] := H1.split 2 2 rfl rfl (by decide)
  clear H0 H1
  obtain ⟨Av, cv, rfl⟩ := H.fact 3 rfl (fun S h => Kd.R_slice h)
  have z2 : w.cell? ⟨b, 2, none⟩ = some (.slice Av s.l.length cv) := H.cell 2 rfl 2 rfl
  have z3 : w.cell? ⟨b, 3, none⟩ = some (.bool true) := H.cell 2 rfl 3 rfl
  go_enter Try.func25, Try.ntmps25
  go_wp2_with (first
    | (go_at_call 34; refine (none_calls b w true z3).mono ?_; rintro e w' ⟨rfl, rfl⟩)
    | ((with_reducible refine gate_dst (N := 12) rfl ?_); refine Hp.at_make k56 H 3 56 ?hg (N := 12) ?hd 38 (.tmp 11) (.tmp 11) ?ho s.l.length ?hx ?hy Try.underlying38 (.agg #[.string ⟨#[]⟩, .string ⟨#[]⟩, .int .i64 0]) 40 info56 rfl (by decide) (by omega) z56 (k56_mkM _ _ _ _) (by omega) ?_; (case hd => rfl); (case hg => rfl); (case ho => rfl); (case hx => rfl); (case hy => rfl); intro A c w1 hc H1; have y2 : w1.cell? ⟨b, 2, none⟩ = some (.slice Av s.l.length cv) := H1.cell 2 rfl 2 rfl)
    | ((with_reducible refine gate_builtin (b := .copy) (xs := #[.tmp 13, .tmp 17]) rfl ?_); refine Hp.at_copy k56 H1 4 rfl (.tmp 13) (.tmp 17) 38 38 56 rfl Try.underlying38 ?hi (.slice A s.l.length c) (List.replicate s.l.length z56) s.l Av s.l.length cv rfl rfl rfl rfl (H1.row_C 3 rfl).2.2 (km56 _) (by simp) ?_; (case hi => rfl); intro w2 H2)
    | (go_at_call 46; refine (values_calls w2 _ _ _).mono ?_; rintro e w3 ⟨rfl, rfl⟩))
  go_ret
  have H3 := H2.box_new 4 #[.slice A s.l.length c] 38
  have H4 := H3.join 2 3 rfl rfl (by decide) rfl rfl
  have H5 := H4.join 5 4 rfl rfl (by decide) rfl rfl
  have H6 := H5.imp 2 (A' := isImg b s) rfl (fun S h => ⟨_, h⟩)
  have H7 := H6.join 2 5 rfl rfl (by decide) rfl rfl
  exact ⟨_, rfl, (H7.imp 2 (A' := Asn.ex fun x : Nat × Option Addr × Nat => Asn.and (Asn.lift (_ = Value.func (.func 67) #[] #[.pointer (some ⟨x.1, 0, none⟩)])) (Asn.star (isImg b s) (isIt x.1 x.2.1 x.2.2 s.l))) rfl (fun S h => ⟨(w2.heap.size, A, c), rfl, h⟩)).keep [0, 2]⟩
end Go.Proofs.Ytkflgkmblebdmaa.Im

set_option linter.unusedVariables false
set_option linter.unusedSimpArgs false
namespace Go.Proofs.Ytkflgkmblebdmaa.Im
open Go.RowKit Go.Shelf Go.Proofs.Ytkflgkmblebdmaa.B Go.Proofs.YtkflgkmblebdmaaW.PrintWords Go.Proofs.YtkflgkmblebdmaaW.PrintLast Go.Proofs.YtkflgkmblebdmaaW.PrintMore Go.Proofs.YtkflgkmblebdmaaW.Mine Go.Proofs.YtkflgkmblebdmaaW.Hp
structure SR where
  ts : Int
  last : ByteArray
  any : Bool
  l : List S56
def isRef (b : Nat) (s : SR) : Asn := Asn.ex fun v : Value => Asn.star (Asn.box b #[.int .i64 s.ts, .string s.last, .bool s.any, v] 40) (Asn.row k56 56 v s.l)
def keyE (s : ByteArray) : Int := if s.toList = [] then 30 else if (s.size : Int) > 64 then 30 else 0
theorem key_eq (s : ByteArray) : record_Key.f s = some (keyE s) := by
  unfold record_Key.f keyE
  by_cases h1 : s.toList = []
  · rw [if_pos h1, if_pos h1]
  · rw [if_neg h1, if_neg h1]
    by_cases h2 : (s.size : Int) > 64
    · rw [if_pos h2, if_pos h2]
    · rw [if_neg h2, if_neg h2]
theorem keyR_eq (s : ByteArray) : cressetref03_Key.f s = some (keyE s) := by
  unfold cressetref03_Key.f keyE
  by_cases h1 : s.toList = []
  · rw [if_pos h1, if_pos h1]
  · rw [if_neg h1, if_neg h1]
    by_cases h2 : (s.size : Int) > 64
    · rw [if_pos h2, if_pos h2]
    · rw [if_neg h2, if_neg h2]
def kle (key last : ByteArray) : Bool := Op.bytesLess key.toList last.toList || key.toList == last.toList
def addR (s : SR) (key : ByteArray) (l : List S87) : Int × SR :=
  if keyE key ≠ 0 then (keyE key, s) else
  if s.any = true ∧ kle key s.last = true then (150, s) else
  if Lib.chk l ≠ 0 then (Lib.chk l, s) else
  if (Lib.seen l s.ts).2.2.2 = true ∧ (Lib.seen l s.ts).2.2.1 = false then (if (s.l.length : Int) ≥ 65536 then (3, s) else (0, ⟨s.ts, key, true, s.l ++ [⟨key, (Lib.seen l s.ts).2.1, (Lib.seen l s.ts).1⟩]⟩)) else (0, ⟨s.ts, key, true, s.l⟩)
theorem newR_calls (ts : Int) (h0 : 0 ≤ ts) (h1 : ts ≤ 1099511627776) : Tr Try.prog 11 #[.int .i64 ts] Asn.top Asn.top (fun r => Asn.ex fun b : Nat => Asn.and (Asn.lift (r = .tuple #[.pointer (some ⟨b, 0, none⟩), .int .i64 0])) (isRef b ⟨ts, ⟨#[]⟩, false, []⟩)) := by
  refine Tr.intro fun w U H0 => ?_
  have H : Hp w w [(0, Asn.old w U)] := H0.keep [0]
  clear H0
  have c0 : decide (ts < 0) = false := decide_eq_false (by omega)
  have c1 : decide (1099511627776 < ts) = false := decide_eq_false (by omega)
  go_enter Try.func11, Try.ntmps11
  go_wp2_with ((with_reducible refine gate_dst (N := 12) rfl ?_); refine Hp.at_box H 1 ?hg (N := 12) ?hd (cs := #[.int .i64 ts, .string ⟨#[]⟩, .bool false, .slice none 0 0]) (t := 40) ?hr ?_; (case hd => rfl); (case hg => rfl); (case hr => first | (go_simp; done) | (go_simp; rfl)); intro g w1 H1)
  go_ret2
  refine ⟨_, rfl, ?_⟩
  have H2 := H1.free 2 (A := Asn.row k56 56 (.slice none 0 0) []) (Kd.R_nil _ _ _ _ _)
  have H3 := H2.join 1 2 rfl rfl (by decide) rfl rfl
  exact (H3.imp 1 (A' := Asn.ex fun b : Nat => Asn.and (Asn.lift (_ = Value.tuple #[.pointer (some ⟨b, 0, none⟩), .int .i64 0])) (isRef b ⟨ts, ⟨#[]⟩, false, []⟩)) rfl (fun S h => ⟨g, rfl, _, h⟩)).keep [0, 1]
def fromR (s : SR) : ByteArray := if s.any = true then s.last ++ ⟨#[0]⟩ else ⟨#[]⟩
theorem fromR_calls (b : Nat) (w : World) (s : SR) (h1 : w.cell? ⟨b, 1, none⟩ = some (.string s.last)) (h2 : w.cell? ⟨b, 2, none⟩ = some (.bool s.any)) (hz : s.last.size ≤ 64) : Calls Try.prog 16 #[.pointer (some ⟨b, 0, none⟩)] w fun e w' => e = .returned (.string (fromR s)) ∧ w = w' := by
  unfold fromR
  cases hh : s.any with
  | true =>
    rw [hh] at h2
    have c2 : s.last.size + 1 ≤ 9223372036854775807 := by omega
    have c2b0 := eq_true c2
    have c2b1 : decide (s.last.size + 1 ≤ 9223372036854775807) = true := decide_eq_true c2
    have c2b2 : (9223372036854775807 < s.last.size + 1) = False := eq_false (Nat.not_lt.2 c2)
    go_enter Try.func16, Try.ntmps16
    go_wp2
    go_ret
    exact ⟨rfl, rfl⟩
  | false =>
    rw [hh] at h2
    go_enter Try.func16, Try.ntmps16
    go_wp2
    go_ret
    exact ⟨rfl, rfl⟩
end Go.Proofs.Ytkflgkmblebdmaa.Im

set_option linter.unusedVariables false
set_option linter.unusedSimpArgs false
namespace Go.Proofs.Ytkflgkmblebdmaa.Im
open Go.RowKit Go.Shelf Go.Proofs.Ytkflgkmblebdmaa.B Go.Proofs.YtkflgkmblebdmaaW.PrintWords Go.Proofs.YtkflgkmblebdmaaW.PrintLast Go.Proofs.YtkflgkmblebdmaaW.PrintMore Go.Proofs.YtkflgkmblebdmaaW.Mine Go.Proofs.YtkflgkmblebdmaaW.Hp
attribute [local go_sem] Oper.semAt_some
set_option maxHeartbeats 16000000 in
set_option maxRecDepth 100000 in
theorem lawpairs_tr (g : Nat) (A : Option Addr) (c : Nat) (l : List S56) (A2 : Option Addr) (c2 : Nat) (stop : Int) (hc : l.length ≤ c) (hc2 : l.length ≤ c2) (hl : l.length ≤ 65536) :
    Tr Try.prog 42 #[.func (.func 67) #[] #[.pointer (some ⟨g, 0, none⟩)], .slice A2 l.length c2, .int .i64 stop] (Asn.rd k56 A2 l.length l) (isIt g A c l) (fun r => Asn.and (Asn.lift (r = .bool true)) (isIt g A c l)) := by
  refine Tr.intro fun w U H0 => ?_
  have H : Hp w w [(0, Asn.old w U), (0, Asn.rd k56 A2 l.length l), (1, Asn.box g #[.slice A l.length c] 38), (2, Asn.row k56 56 (.slice A l.length c) l)] := H0.split 2 2 rfl rfl (by decide)
  clear H0
  refine (callsIn_wide (n := 3)).1 (callsIn_of_wp_marks Try.func42 rfl trivial ?_ rfl)
  rw [wpIn_wide]
  simp only [Try.ntmps42, List.size_toArray, List.length_cons, List.length_nil, Nat.reduceAdd, Nat.reduceSub, Array.replicate_succ, Array.replicate_zero, List.push_toArray, List.append_toArray, List.nil_append, List.cons_append]
  go_wp2_with (first
    | ((with_reducible refine gate_dst (N := 4) rfl ?_); refine Hp.at_box H 3 ?hg (N := 4) ?hd (cs := #[.slice A2 l.length c2]) (t := 38) ?hr ?_; (case hd => rfl); (case hg => rfl); (case hr => first | (go_simp; done) | (go_simp; rfl)); intro g4 w4 H4)
    | ((with_reducible refine gate_dst (N := 5) rfl ?_); refine Hp.at_box H4 4 ?hg (N := 5) ?hd (cs := #[.int .i64 stop]) (t := 3) ?hr ?_; (case hd => rfl); (case hg => rfl); (case hr => first | (go_simp; done) | (go_simp; rfl)); intro g5 w5 H5; clear H4)
    | ((with_reducible refine gate_dst (N := 6) rfl ?_); refine Hp.at_box H5 5 ?hg (N := 6) ?hd (cs := #[.bool false]) (t := 4) ?hr ?_; (case hd => rfl); (case hg => rfl); (case hr => first | (go_simp; done) | (go_simp; rfl)); intro g6 w6 H6; clear H5))
  have H7 := H6.box_new 6 #[.int .i64 0] 3
  clear H6
  obtain ⟨w7, hw7⟩ : ∃ w7, w7 = w6.alloc (.cells #[.int .i64 0] 3) := ⟨_, rfl⟩
  rw [← hw7] at H7 ⊢
  obtain ⟨g7, hg7⟩ : ∃ g7, g7 = w6.heap.size := ⟨_, rfl⟩
  rw [← hg7] at H7 ⊢
  clear hw7 hg7
  have HS := Aside0.mk hl
  refine wpIn_wide.1 (rf_walkA (n := 3) (by omega) (gf := 67) (lb := #[.pointer (some ⟨g, 0, none⟩)]) rfl (enters_of Try.func67 (by kernel_rfl) rfl) ?_)
  intro rec hYield
  have H8 := obj_new (obj_new H7 7 (.deferred (some []))) 8 (.loop (rec .ready none))
  rw [World.size_alloc] at H8
  clear H7
  refine (in67v (w7.heap.size + 1) g 1 A c l (fun i W => Hp w W [(0, Asn.old w U), (0, Asn.rd k56 A2 l.length l), (1, Asn.box g #[.slice A l.length c] 38), (2, Asn.row k56 56 (.slice A l.length c) l), (3, Asn.box g4 #[.slice A2 l.length c2] 38), (4, Asn.box g5 #[.int .i64 stop] 3), (5, Asn.box g6 #[.bool false] 4), (6, Asn.box g7 #[.int .i64 i] 3), (7, Asn.obj w7.heap.size (.deferred (some []))), (8, Asn.obj (w7.heap.size + 1) (.loop (rec .ready none)))])
    (fun i W => Hp w W [(0, Asn.old w U), (0, Asn.rd k56 A2 l.length l), (1, Asn.box g #[.slice A l.length c] 38), (2, Asn.row k56 56 (.slice A l.length c) l), (3, Asn.box g4 #[.slice A2 l.length c2] 38), (4, Asn.box g5 #[.int .i64 stop] 3), (5, Asn.box g6 #[.bool true] 4), (6, Asn.box g7 #[.int .i64 (i + 1 : Nat)] 3), (7, Asn.obj w7.heap.size (.deferred (some []))), (8, Asn.obj (w7.heap.size + 1) (.loop (rec .done (some .ret))))]) _
    (fun _ _ H => ⟨H.cell 2 rfl 0 rfl, (H.row_C 3 rfl).2.2⟩) (fun _ _ _ H hb => H.same hb) ?_ H8).mono ?_
  · intro i W0 hi HJ
    have hcx := HJ.reads 1 rfl
    have H9 := HJ.box_new 9 #[.string (rd_T56 l (i : Int)).f0, .string (rd_T56 l (i : Int)).f1, .int .i64 (rd_T56 l (i : Int)).f2] 56
    refine hYield #[v56 (rd_T56 l (i : Int))] W0 (W0.alloc (.cells #[.string (rd_T56 l (i : Int)).f0, .string (rd_T56 l (i : Int)).f1, .int .i64 (rd_T56 l (i : Int)).f2] 56)) _ _ rfl (HJ.obj_at 9 rfl) (H9.obj_at 9 rfl) (fun K hK => by unfold v56; gi_wp2; exact hK) ?_
    have H10 := H9.put_obj 9 rfl rfl (.loop { rec .ready none with state := .busy })
    obtain ⟨ad, e1, x0, x1, x2⟩ := at_T56 (H10.reads 1 rfl) (i : Int) (by omega) (by omega)
    cases e1
    rw [Int.toNat_natCast] at x0 x1 x2
    have q0 := H10.cell 10 rfl 0 rfl
    have q1 := H10.cell 10 rfl 1 rfl
    have q2 := H10.cell 10 rfl 2 rfl
    generalize rd_T56 l (i : Int) = x at *
    generalize W0.heap.size = g8 at *
    generalize (W0.alloc (.cells #[.string x.f0, .string x.f1, .int .i64 x.f2] 56)).putObj (w7.heap.size + 1) (.loop { rec .ready none with state := .busy }) = W2 at *
    have y3 := H10.cell 4 rfl 0 rfl
    have y4 := H10.cell 5 rfl 0 rfl
    have y6 := H10.cell 7 rfl 0 rfl
    have u5 := H10.unfrozen 6 rfl 0
    have u6 := H10.unfrozen 7 rfl 0
    clear hYield H9 HJ hcx H8
    have hlt : (i : Int) < (l.length : Int) := by omega
    have hdl : decide (l.length ≤ i) = false := decide_eq_false (by omega)
    gi_wp2
    refine quietR_lit (by kernel_rfl) (by kernel_rfl) (by kernel_rfl) ?_
    repeat (go_big_quiet_step (fail))
    refine wpQuiet_nil ?_
    intro _ hw'
    obtain ⟨nq, hw''⟩ := hw'
    subst hw''
    have H11 := (H10.drewN nq).box_set 7 rfl rfl 0 (.int .i64 ((i : Int) + 1))
    have z4 := H11.cell 5 rfl 0 (v := .int .i64 stop) rfl
    have z7 := H11.cell 7 rfl 0 (v := .int .i64 ((i : Int) + 1)) rfl
    have u6b := H11.unfrozen 6 rfl 0
    have y6b := H11.cell 6 rfl 0 (v := .bool false) rfl
    by_cases hst : (i : Int) + 1 = stop
    · subst hst
      gi_wp2
      have H12 := H11.box_set 6 rfl rfl 0 (.bool true)
      exact ⟨H12.obj_at 9 rfl, false, rfl, .inr ⟨rfl, (H12.put_obj 9 rfl rfl (.loop (rec .done (some .ret)))).keep [0, 1, 2, 3, 4, 5, 6, 7, 8, 9]⟩⟩
    · have hsd : ((i : Int) + 1 == stop) = false := beq_eq_false_iff_ne.mpr hst
      gi_wp2
      exact ⟨H11.obj_at 9 rfl, true, rfl, .inl ⟨rfl, (H11.put_obj 9 rfl rfl (.loop (rec .ready none))).keep [0, 1, 2, 3, 4, 5, 6, 7, 8, 9]⟩⟩
  · rintro e W2 ⟨hv, (H13 | ⟨i0, hi0, H13⟩)⟩
    · refine ⟨hv, .inl ⟨H13.obj_at 9 rfl, fun o' => ?_⟩⟩
      have H14 := (H13.put_obj 9 rfl rfl o').keep [0, 1, 2, 3, 4, 6, 7, 8]
      have y4 := H14.cell 4 rfl 0 rfl
      have y6 := H14.cell 5 rfl 0 (v := .bool false) rfl
      have u6 := H14.unfrozen 5 rfl 0
      have y7 := H14.cell 6 rfl 0 (v := .int .i64 l.length) rfl
      have H15 := H14.box_set 5 rfl rfl 0 (.bool true)
      have hd1 := H15.obj_at 7 rfl
      have H16 := H15.put_obj 7 rfl rfl (.deferred none)
      have hcc := H16.cell 5 rfl 0 (v := .bool true) rfl
      clear H15 H14 hYield H8 H13
      go_wp2
      refine ⟨by simp, .inl ⟨_, _, rfl, run_takeDeferred hd1, ?_⟩⟩
      refine ⟨.bool true, ?_, _, rfl, ?_⟩
      · simp [results, Try.f42, go_sem, hcc]
      · exact ((H16.join 2 3 rfl rfl (by decide) rfl rfl).imp 2 (A' := Asn.and (Asn.lift (Value.bool true = Value.bool true)) (isIt g A c l)) rfl (fun S h => ⟨rfl, h⟩)).keep [0, 2]
    · refine ⟨hv, .inr ⟨.ret, H13.obj_at 9 rfl, fun o' => ?_⟩⟩
      have H14 := (H13.put_obj 9 rfl rfl o').keep [0, 1, 2, 3, 4, 6, 7, 8]
      have y6 := H14.cell 5 rfl 0 (v := .bool true) rfl
      have hd1 := H14.obj_at 7 rfl
      have H16 := H14.put_obj 7 rfl rfl (.deferred none)
      have hcc := H16.cell 5 rfl 0 (v := .bool true) rfl
      clear H14 hYield H8 H13
      rw [wpIn_wide]
      go_wp2
      refine ⟨by simp, .inl ⟨_, _, rfl, run_takeDeferred hd1, ?_⟩⟩
      refine ⟨.bool true, ?_, _, rfl, ?_⟩
      · simp [results, Try.f42, go_sem, hcc]
      · exact ((H16.join 2 3 rfl rfl (by decide) rfl rfl).imp 2 (A' := Asn.and (Asn.lift (Value.bool true = Value.bool true)) (isIt g A c l)) rfl (fun S h => ⟨rfl, h⟩)).keep [0, 2]
set_option maxHeartbeats 8000000 in
set_option maxRecDepth 100000 in
theorem told_tr (b : Nat) (s : S) (A2 : Option Addr) (c2 : Nat) (stop : Int) (hc2 : s.l.length ≤ c2) (hl : s.l.length ≤ 65536) :
    Tr Try.prog 18 #[.pointer (some ⟨b, 0, none⟩), .slice A2 s.l.length c2, .int .i64 stop] (Asn.rd k56 A2 s.l.length s.l) (isImg b s) (fun r => Asn.and (Asn.lift (r = .bool true)) (isImg b s)) := by
  refine Tr.intro fun w U H => ?_
  go_enter Try.func18, Try.ntmps18
  go_wp2_with (first
    | (go_at_call 25; refine (H.call (pairs_tr b s hl) 2 rfl rfl (fun _ _ => trivial)).mono ?_; rintro e w1 ⟨r, rfl, H1⟩; obtain ⟨⟨g, A, c⟩, H2⟩ := H1.open_ 2 rfl; obtain rfl := H2.fact 2 rfl (fun S h => h.1); have hcc : s.l.length ≤ c := H2.fact 2 rfl (fun S h => let ⟨_, _, _, _, _, _, _, _, _, _, hR⟩ := h.2; (Kd.R_reads' hR).2.1); have H3 := (H2.imp 2 (A' := Asn.star (isImg b s) (isIt g A c s.l)) rfl (fun S h => h.2)).split 2 2 rfl rfl (by decide); clear H H1 H2)
    | (go_at_call 42; refine (H3.call (lawpairs_tr g A c s.l A2 c2 stop hcc hc2 hl) 3 rfl rfl (fun lab h => (Asn.rd k56 A2 _ _).mono (h.get (p := 1) rfl) (fun k _ hk => by have h2 : lab k = 0 := hk; omega))).mono ?_; rintro e w2 ⟨r, rfl, H4⟩; obtain rfl := H4.fact 3 rfl (fun S h => h.1); have H5 := H4.imp 3 (A' := isIt g A c s.l) rfl (fun S h => h.2); clear H4 H3)
    | (go_at_call 42; refine (H5.call (lawpairs_tr g A c s.l A2 c2 0 hcc hc2 hl) 3 rfl rfl (fun lab h => (Asn.rd k56 A2 _ _).mono (h.get (p := 1) rfl) (fun k _ hk => by have h2 : lab k = 0 := hk; omega))).mono ?_; rintro e w3 ⟨r, rfl, H6⟩; obtain rfl := H6.fact 3 rfl (fun S h => h.1); have H7 : Hp w w3 [(0, Asn.old w U), (1, isImg b s)] := H6.keep [0, 2]; clear H6 H5; obtain ⟨v, H8⟩ := H7.open_ 1 rfl; have H9 := H8.split 1 2 rfl rfl (by decide); obtain ⟨Av, cv, rfl⟩ := H9.fact 2 rfl (fun S h => Kd.R_slice h); have z2 := H9.cell 1 rfl 2 (v := .slice Av s.l.length cv) rfl; have z3 := H9.cell 1 rfl 3 (v := .bool true) rfl)
    | (go_at_call 17; refine (len_calls b _ _ _ _ z3 z2).mono ?_; rintro e w' ⟨rfl, rfl⟩))
  go_ret
  exact ⟨_, rfl, H7.imp 1 (A' := Asn.and (Asn.lift (Value.bool true = Value.bool true)) (isImg b s)) rfl (fun S h => ⟨rfl, h⟩)⟩
end Go.Proofs.Ytkflgkmblebdmaa.Im

set_option linter.unusedVariables false
set_option linter.unusedSimpArgs false
namespace Go.Proofs.Ytkflgkmblebdmaa.Im
open Go.RowKit Go.Shelf Go.Proofs.Ytkflgkmblebdmaa.B Go.Proofs.YtkflgkmblebdmaaW.PrintWords Go.Proofs.YtkflgkmblebdmaaW.PrintLast Go.Proofs.YtkflgkmblebdmaaW.PrintMore Go.Proofs.YtkflgkmblebdmaaW.Mine Go.Proofs.YtkflgkmblebdmaaW.Hp
attribute [local go_sem] Oper.semAt_some min2_int
def nch (cs : List S56) : Nat := (cs.length - 1) / 16 + 1
def top_ (cs : List S56) (i : Nat) : Nat := min cs.length (16 * i + 16)
def piece (cs : List S56) (i : Nat) : List S56 := (cs.take (top_ cs i)).drop (16 * i)
theorem nch_last (cs : List S56) (i : Nat) (h : i < nch cs) : (top_ cs i = cs.length ↔ i + 1 = nch cs) ∧ 16 * i ≤ top_ cs i := by
  unfold nch at *
  unfold top_
  omega
def isC (g : Nat) (i : Int) (v : Value) (b : Bool) (pc : List S56) : Asn := Asn.star (Asn.row k56 56 v pc) (Asn.box g #[.int .i64 i, v, .bool b] 65)
theorem wfB {wr w4 : World} {i : Int} {A4 : Option Addr} {c4 : Nat} {b : Bool} {pc : List S56} (hB : Below wr.drew.heap.size wr.drew w4) (hR : Kd.R k56 56 w4 wr.drew.heap.size (fun _ => True) (.slice A4 pc.length c4) pc) :
    Below wr.heap.size wr (w4.alloc (.cells #[.int .i64 i, .slice A4 pc.length c4, .bool b] 65)) ∧ (isC w4.heap.size i (.slice A4 pc.length c4) b pc).P (w4.alloc (.cells #[.int .i64 i, .slice A4 pc.length c4, .bool b] 65)) (fun k => wr.heap.size ≤ k) := by
  have hB2 : Below wr.heap.size wr w4 := (below_drew (Below.refl _ _)).trans hB
  refine ⟨hB2.alloc hB2.size _, fun k => wr.heap.size ≤ k ∧ k < w4.heap.size, fun k => k = w4.heap.size, fun k h1 h2 => by omega, fun k hk _ => ?_, ?_, ⟨World.alloc_heap_new _ _, rfl⟩⟩
  · have := hB2.size
    rcases hk with hk | hk
    · exact hk.1
    · omega
  · have h1 : (Asn.row k56 56 (.slice A4 pc.length c4) pc).P w4 (fun k => wr.heap.size ≤ k ∧ k < w4.heap.size) := Kd.R_lower (Kd.R_mono (Kd.R_bound hR) (fun _ hk => ⟨hk.2.1, hk.2.2.1⟩)) (Nat.zero_le _)
    exact (Asn.row k56 56 (.slice A4 pc.length c4) pc).move h1 (fun k hk hlt => Below.heap_alloc _ _ _ hlt) (by simp)
theorem wfA {wr w4 : World} {i : Int} {A4 : Option Addr} {c4 : Nat} {b : Bool} {pc : List S56} (hB : Below (wr.alloc (.cells #[.int .i64 0, .slice none 0 0, .bool false] 65)).drew.heap.size (wr.alloc (.cells #[.int .i64 0, .slice none 0 0, .bool false] 65)).drew w4) (hR : Kd.R k56 56 w4 (wr.alloc (.cells #[.int .i64 0, .slice none 0 0, .bool false] 65)).drew.heap.size (fun _ => True) (.slice A4 pc.length c4) pc) :
    Below wr.heap.size wr (((w4.setCell ⟨wr.heap.size, 0, none⟩ (.int .i64 i)).setCell ⟨wr.heap.size, 1, none⟩ (.slice A4 pc.length c4)).setCell ⟨wr.heap.size, 2, none⟩ (.bool b)) ∧ (isC wr.heap.size i (.slice A4 pc.length c4) b pc).P (((w4.setCell ⟨wr.heap.size, 0, none⟩ (.int .i64 i)).setCell ⟨wr.heap.size, 1, none⟩ (.slice A4 pc.length c4)).setCell ⟨wr.heap.size, 2, none⟩ (.bool b)) (fun k => wr.heap.size ≤ k) := by
  have hsz : (wr.alloc (.cells #[.int .i64 0, .slice none 0 0, .bool false] 65)).drew.heap.size = wr.heap.size + 1 := World.size_alloc _ _
  have gN := World.alloc_heap_new wr (.cells #[.int .i64 0, .slice none 0 0, .bool false] 65)
  have gB : w4.heap[wr.heap.size]? = some (.cells #[.int .i64 0, .slice none 0 0, .bool false] 65) := (hB.block _ (blk_lt gN)).trans gN
  have hB1 : Below wr.heap.size wr w4 := ((al0 wr _).trans (below_drew (Below.refl _ _))).trans (hB.mono (by omega))
  have s1 := blk_set gB 0 (.int .i64 i)
  have s2 := blk_set s1 1 (.slice A4 pc.length c4)
  have s3 := blk_set s2 2 (.bool b)
  refine ⟨((hB1.setCell (p := ⟨wr.heap.size, 0, none⟩) (Nat.le_refl _) _).setCell (p := ⟨wr.heap.size, 1, none⟩) (Nat.le_refl _) _).setCell (p := ⟨wr.heap.size, 2, none⟩) (Nat.le_refl _) _, fun k => wr.heap.size + 1 ≤ k, fun k => k = wr.heap.size, fun k h1 h2 => by omega, fun k hk _ => ?_, ?_, ⟨?_, rfl⟩⟩
  · rcases hk with hk | hk <;> omega
  · have h1 : (Asn.row k56 56 (.slice A4 pc.length c4) pc).P w4 (fun k => wr.heap.size + 1 ≤ k) := Kd.R_lower (Kd.R_mono (Kd.R_bound hR) (fun _ hk => by have := hk.2.1; omega)) (Nat.zero_le _)
    refine (Asn.row k56 56 (.slice A4 pc.length c4) pc).move h1 (fun k hk hlt => ?_) (by simp [World.setCell])
    rw [Below.heap_setCell _ ⟨wr.heap.size, 2, none⟩ _ k (by show k ≠ wr.heap.size; omega), Below.heap_setCell _ ⟨wr.heap.size, 1, none⟩ _ k (by show k ≠ wr.heap.size; omega), Below.heap_setCell _ ⟨wr.heap.size, 0, none⟩ _ k (by show k ≠ wr.heap.size; omega)]
  · exact s3
set_option maxRecDepth 100000 in
set_option maxHeartbeats 8000000 in
theorem in47v (l b5 b3 m : Nat) (A : Option Addr) (c : Nat) (cs : List S56) (hl : cs.length ≤ 65536) (hc : cs.length ≤ c) (J Jx : Nat → World → Prop) (W : World)
    (hJ : ∀ i W, J i W → W.cell? ⟨b5, 0, none⟩ = some (.bool false) ∧ W.cell? ⟨b3, 0, none⟩ = some (.slice A cs.length c) ∧ Kd.C k56 W A cs.length cs)
    (hJb : ∀ i W W', J i W → Below W.heap.size W W' → J i W')
    (hY : ∀ (i : Nat) (W0 W1 : World) (g : Nat) (v : Value), i < nch cs → J i W0 → Below W0.heap.size W0 W1 → (isC g i v ((top_ cs i : Int) == (cs.length : Int)) (piece cs i)).P W1 (fun k => W0.heap.size ≤ k) → YieldAt Fence.wide m Try.prog l #[.agg #[.int .i64 i, v, .bool ((top_ cs i : Int) == (cs.length : Int))]] W1 fun e W' => ∃ b5 : Bool, e = .returned (.bool b5) ∧ ((b5 = true ∧ J (i + 1) W' ∧ W'.heap[g]? = some (.cells #[.int .i64 i, v, .bool ((top_ cs i : Int) == (cs.length : Int))] 65 (0, 0))) ∨ (b5 = false ∧ Jx i W')))
    (h0 : J 0 W) :
    CallsIn Fence.wide (m + 1) Try.prog 47 #[.func (.yield l) #[] #[], .pointer (some ⟨b5, 0, none⟩), .pointer (some ⟨b3, 0, none⟩)] W fun e W' => (∃ v, e = .returned v) ∧ (J (nch cs) W' ∨ ∃ i, i < nch cs ∧ Jx i W') := by
  refine callsIn_of_wp Try.func47 rfl trivial ?_ rfl
  simp only [Try.ntmps47, List.size_toArray, List.length_cons, List.length_nil, Nat.reduceAdd, Nat.reduceSub, Array.replicate_succ, Array.replicate_zero, List.push_toArray, List.append_toArray, List.nil_append, List.cons_append]
  obtain ⟨hcell, _, hC⟩ := hJ 0 W h0
  have HJ := Aside0.mk hJ
  have HB := Aside0.mk hJb
  have HY := Aside0.mk hY
  clear hJ hJb hY hC
  gi_wp2
  gi_loopw [4] (fun p wr => ∃ i : Nat, p = .int .i64 i ∧ i < nch cs ∧ J i wr) (fun p _ => nch cs - (intOf p).toNat)
  case atStart => exact ⟨0, rfl, by unfold nch; omega, h0⟩
  case round =>
    clear h0 hcell
    obtain ⟨i, rfl, hlt, hJi⟩ := hrel
    obtain ⟨z5, z3, hC⟩ := HJ.out i wr hJi
    obtain ⟨hlast, h16⟩ := nch_last cs i hlt
    have htop : top_ cs i ≤ cs.length := by unfold top_; omega
    have hn : nch cs ≤ 4097 := by unfold nch; omega
    have HX := HY.out i
    have e3 : min cs.length (16 * i + 16) = top_ cs i := rfl
    have hP := Kd.C_mid hC h16 htop hc
    change Kd.C k56 wr _ (piece cs i).length (piece cs i) at hP
    have hpl : (piece cs i).length = top_ cs i - 16 * i := by unfold piece; simp; omega
    have HIL : Aside0 (i ≤ 4097) := ⟨by omega⟩
    generalize hpc : piece cs i = pc at *
    generalize hhi : top_ cs i = hi at *
    obtain ⟨lo, hlo⟩ : ∃ lo, 16 * i = lo := ⟨_, rfl⟩
    have e2 : (i : Int) * 16 = (lo : Int) := by omega
    rw [hlo] at h16 e3 hpl hP
    have e1 : min (cs.length : Int) ((lo : Int) + 16) = (hi : Int) := by omega
    have hlo2 : lo ≤ 65552 := by omega
    obtain ⟨i0, hi0, _, hsz, _⟩ := info_parts info56
    have hcut := cut_mid (P := Try.prog) 38 56 .i64 .i64 Try.underlying38 hi0 3 hsz A cs.length c (lo : Int) (hi : Int) (by omega) (by omega) (by omega) hc
    have hcc : pc.length ≤ c - lo := by omega
    have hpm : pc.length < 3518437208883 := by omega
    simp only [Int.toNat_natCast] at hcut
    rw [← hpl] at hcut
    change Kd.C k56 wr (if c = lo then A else A.map (·.add (lo * 3))) pc.length pc at hP
    generalize (if c = lo then A else A.map (·.add (lo * 3))) = A' at hP hcut
    generalize c - lo = c' at hcut hcc
    have HJi := Aside0.mk hJi
    have HP := Aside0.mk hP
    have HLa := Aside0.mk hlast
    have HN := Aside0.mk hn
    have HBB := Aside0.mk (show (((hi : Int) == (cs.length : Int)) = true ↔ i + 1 = nch cs) by rw [beq_iff_eq, ← hlast]; omega)
    have HL := Aside0.mk hlt
    have HCON := Aside0.mk (fun W hC => api_Stamped_48.calls A' c' pc pc W hC hcc (if_pos hpm))
    have z3d : wr.drew.cell? ⟨b3, 0, none⟩ = some (.slice A cs.length c) := z3
    have z3a := ck (.cells #[.int .i64 0, .slice none 0 0, .bool false] 65) z3
    clear hJi hP hpl hlast hC e3 hlo hhi hpc hn hlt
    gi_wp2
    rw [wpIn_wide]
    go_region_with (first
      | (go_at_call 48; refine (HCON.out _ (Kd.C_drew HP.out)).mono ?_; rintro e w4 ⟨v4, rfl, hR4, hB4⟩; obtain ⟨A4, c4, rfl⟩ := Kd.R_slice hR4; have z4 := bc hB4 z3d; have z6 := ck (.cells #[.int .i64 0, .slice none 0 0, .bool false] 65) z4)
      | (go_at_call 48; refine (HCON.out _ (Kd.C_drew (Kd.C_alloc HP.out (.cells #[.int .i64 0, .slice none 0 0, .bool false] 65)))).mono ?_; rintro e w4 ⟨v4, rfl, hR4, hB4⟩; obtain ⟨A4, c4, rfl⟩ := Kd.R_slice hR4; have z4 := bc hB4 z3a; have gN := World.alloc_heap_new wr (.cells #[.int .i64 0, .slice none 0 0, .bool false] 65); have gB : w4.heap[wr.heap.size]? = some (.cells #[.int .i64 0, .slice none 0 0, .bool false] 65) := (hB4.block _ (blk_lt gN)).trans gN; have y0 : w4.cell? ⟨wr.heap.size, 0, none⟩ = some (.int .i64 0) := (blk_cell gB 0).trans rfl; have y1 : w4.cell? ⟨wr.heap.size, 1, none⟩ = some (.slice none 0 0) := (blk_cell gB 1).trans rfl; have y2 : w4.cell? ⟨wr.heap.size, 2, none⟩ = some (.bool false) := (blk_cell gB 2).trans rfl; have f0 : w4.frozen? ⟨wr.heap.size, 0, none⟩ = false := blk_frozen gB 0; have f1 : w4.frozen? ⟨wr.heap.size, 1, none⟩ = false := blk_frozen gB 1; have f2 : w4.frozen? ⟨wr.heap.size, 2, none⟩ = false := blk_frozen gB 2; clear gN gB; have z6 := ck (.cells #[.int .i64 0, .slice none 0 0, .bool false] 65) z4))
    all_goals
      clear z4 z6 z3 z3a z3d
      first
        | (clear y0 y1 y2 f0 f1 f2; obtain ⟨hBf, hCf⟩ := wfA (i := (i : Int)) (b := ((hi : Int) == (cs.length : Int))) hB4 hR4; generalize ((w4.setCell ⟨wr.heap.size, 0, none⟩ (.int .i64 i)).setCell ⟨wr.heap.size, 1, none⟩ (.slice A4 pc.length c4)).setCell ⟨wr.heap.size, 2, none⟩ (.bool ((hi : Int) == (cs.length : Int))) = Wf at hBf hCf ⊢; obtain ⟨g, hg⟩ : ∃ g, g = wr.heap.size := ⟨_, rfl⟩; have hCg : (isC g i (.slice A4 pc.length c4) ((hi : Int) == (cs.length : Int)) pc).P Wf (fun k => wr.heap.size ≤ k) := hg ▸ hCf; rw [← hg])
        | (obtain ⟨hBf, hCf⟩ := wfB (i := (i : Int)) (b := ((hi : Int) == (cs.length : Int))) hB4 hR4; generalize w4.alloc (.cells #[.int .i64 i, .slice A4 pc.length c4, .bool ((hi : Int) == (cs.length : Int))] 65) = Wf at hBf hCf ⊢; obtain ⟨g, hg⟩ : ∃ g, g = w4.heap.size := ⟨_, rfl⟩; have hCg : (isC g i (.slice A4 pc.length c4) ((hi : Int) == (cs.length : Int)) pc).P Wf (fun k => wr.heap.size ≤ k) := hg ▸ hCf; rw [← hg])
      clear hg hCf
      obtain ⟨_, _, _, _, _, hbox⟩ := id hCg
      obtain ⟨fn, tmps, assign, body, hy, hRd⟩ := HX wr Wf g (.slice A4 pc.length c4) HL.out HJi.out hBf hCg
      have HRd := Aside0.mk hRd
      have q0 : Wf.cell? ⟨g, 0, none⟩ = some (.int .i64 i) := (blk_cell hbox.1 0).trans rfl
      have q1 : Wf.cell? ⟨g, 1, none⟩ = some (.slice A4 pc.length c4) := (blk_cell hbox.1 1).trans rfl
      have q2 : Wf.cell? ⟨g, 2, none⟩ = some (.bool ((hi : Int) == (cs.length : Int))) := (blk_cell hbox.1 2).trans rfl
      clear hbox hCg hRd hB4 hR4 HX HP HCON
      generalize ((hi : Int) == (cs.length : Int)) = bb at *
      gi_wp2
      refine HRd.out.mono ?_
      rintro e W5 ⟨yes, rfl, hE⟩
      rcases hE with ⟨rfl, hJ5, hg5⟩ | ⟨rfl, hJ5⟩
      · have q5 : W5.cell? ⟨g, 2, none⟩ = some (.bool bb) := (blk_cell hg5 2).trans rfl
        clear q0 q1 q2 hg5
        cases bb with
        | true =>
          have HF : Aside0 (J (nch cs) W5) := ⟨(HBB.out.1 rfl) ▸ hJ5⟩
          clear hJ5
          gi_wp2
          exact bodyPost_ret (results_none rfl _ _ _) rfl ⟨⟨_, rfl⟩, .inl HF.out⟩
        | false =>
          have HN : Aside0 (i + 1 ≠ nch cs) := ⟨fun h => by cases HBB.out.2 h⟩
          gi_wp2
          go_roundw
          case rel => exact ⟨i + 1, by go_num, by have h1 := HL.out; have h2 := HN.out; omega, hJ5⟩
          case measure => have := HL.out; simp [intOf]; omega
      · gi_wp2
        exact bodyPost_ret (results_none rfl _ _ _) rfl ⟨⟨_, rfl⟩, .inr ⟨i, HL.out, hJ5⟩⟩
end Go.Proofs.Ytkflgkmblebdmaa.Im

set_option linter.unusedVariables false
set_option linter.unusedSimpArgs false
namespace Go.Proofs.Ytkflgkmblebdmaa.Im
open Go.RowKit Go.Shelf Go.Proofs.Ytkflgkmblebdmaa.B Go.Proofs.YtkflgkmblebdmaaW.PrintWords Go.Proofs.YtkflgkmblebdmaaW.PrintLast Go.Proofs.YtkflgkmblebdmaaW.PrintMore Go.Proofs.YtkflgkmblebdmaaW.Mine Go.Proofs.YtkflgkmblebdmaaW.Hp
attribute [local go_sem] Oper.semAt_some
def isChk (b5 b3 : Nat) (A : Option Addr) (c : Nat) (l : List S56) : Asn := Asn.star (Asn.box b5 #[.bool false] 4) (isIt b3 A c l)
theorem rd56 (l : List S56) (i : Nat) (h : i < l.length) : rd_T56 l (i : Int) = l[i] := by
  unfold rd_T56
  simp [List.getD_eq_getElem?_getD, List.getElem?_eq_getElem h]
theorem take56 (l : List S56) (i : Nat) (h : i < l.length) : l.take i ++ [rd_T56 l (i : Int)] = l.take (i + 1) := by
  rw [rd56 l i h, List.take_append_getElem]
theorem chk_end {w W : World} {U : Nat → Prop} {X : Asn} {b g3 g5 : Nat} {s : S} {v0 : Value} {A5 : Option Addr} {c5 : Nat} (H : Hp w W [(0, Asn.old w U), (1, Asn.box b #[.int .i64 s.ts, .string s.fr, v0, .bool true] 48), (3, Asn.box g3 #[.slice A5 s.l.length c5] 38), (6, Asn.row k56 56 (.slice A5 s.l.length c5) s.l), (7, X), (2, Asn.row k56 56 v0 s.l), (9, Asn.box g5 #[.bool false] 4)]) :
    Hp w W [(0, Asn.old w U), (1, Asn.ex fun x : Nat × Nat × Option Addr × Nat => Asn.and (Asn.lift (Value.func (.func 47) #[] #[.pointer (some ⟨g5, 0, none⟩), .pointer (some ⟨g3, 0, none⟩)] = Value.func (.func 47) #[] #[.pointer (some ⟨x.1, 0, none⟩), .pointer (some ⟨x.2.1, 0, none⟩)])) (Asn.star (isImg b s) (isChk x.1 x.2.1 x.2.2.1 x.2.2.2 s.l)))] := by
  have H19 := H.join 1 5 rfl rfl (by decide) rfl rfl
  have H20 := H19.imp 1 (A' := isImg b s) rfl (fun S h => ⟨_, h⟩)
  have H21 := H20.join 2 3 rfl rfl (by decide) rfl rfl
  have H22 := H21.join 6 2 rfl rfl (by decide) rfl rfl
  have H23 := H22.join 1 6 rfl rfl (by decide) rfl rfl
  exact (H23.imp 1 (A' := Asn.ex fun x : Nat × Nat × Option Addr × Nat => Asn.and (Asn.lift (Value.func (.func 47) #[] #[.pointer (some ⟨g5, 0, none⟩), .pointer (some ⟨g3, 0, none⟩)] = Value.func (.func 47) #[] #[.pointer (some ⟨x.1, 0, none⟩), .pointer (some ⟨x.2.1, 0, none⟩)])) (Asn.star (isImg b s) (isChk x.1 x.2.1 x.2.2.1 x.2.2.2 s.l))) rfl (fun S h => ⟨(g5, g3, A5, c5), rfl, h⟩)).keep [0, 1]
set_option maxHeartbeats 16000000 in
set_option maxRecDepth 100000 in
theorem chunks_tr (b : Nat) (s : S) (hl : s.l.length ≤ 65536) :
    Tr Try.prog 26 #[.pointer (some ⟨b, 0, none⟩)] Asn.top (isImg b s) (fun r => Asn.ex fun x : Nat × Nat × Option Addr × Nat => Asn.and (Asn.lift (r = .func (.func 47) #[] #[.pointer (some ⟨x.1, 0, none⟩), .pointer (some ⟨x.2.1, 0, none⟩)])) (Asn.star (isImg b s) (isChk x.1 x.2.1 x.2.2.1 x.2.2.2 s.l))) := by
  refine Tr.intro fun w U H => ?_
  refine (callsIn_wide (n := 3)).1 (callsIn_of_wp_marks Try.func26 rfl trivial ?_ rfl)
  rw [wpIn_wide]
  simp only [Try.ntmps26, List.size_toArray, List.length_cons, List.length_nil, Nat.reduceAdd, Nat.reduceSub, Array.replicate_succ, Array.replicate_zero, List.push_toArray, List.append_toArray, List.nil_append, List.cons_append]
  go_wp2_with (first
    | ((with_reducible refine gate_dst (N := 3) rfl ?_); refine Hp.at_box H 3 ?hg (N := 3) ?hd (cs := #[.slice none 0 0]) (t := 38) ?hr ?_; (case hd => rfl); (case hg => rfl); (case hr => first | (go_simp; done) | (go_simp; rfl)); intro g3 w0 H0)
    | (go_at_call 25; refine (H0.call (pairs_tr b s hl) 2 rfl rfl (fun _ _ => trivial)).mono ?_; rintro e w1 ⟨r, rfl, H1⟩; obtain ⟨⟨g, A, c⟩, H2⟩ := H1.open_ 2 rfl; obtain rfl := H2.fact 2 rfl (fun S h => h.1); have H3 := (H2.imp 2 (A' := Asn.star (isImg b s) (isIt g A c s.l)) rfl (fun S h => h.2)).split 2 4 rfl rfl (by decide); have H4 := H3.split 4 5 rfl rfl (by decide); clear H H0 H1 H2 H3))
  have HL := Aside0.mk hl
  refine wpIn_wide.1 (rf_walkA (n := 3) (by omega) (gf := 67) (lb := #[.pointer (some ⟨g, 0, none⟩)]) rfl (enters_of Try.func67 (by kernel_rfl) rfl) ?_)
  intro rec hYield
  have H5 := H4.free 6 (A := Asn.row k56 56 (.slice none 0 0) []) (Kd.R_nil _ _ _ _ _)
  have H8 := obj_new (obj_new H5 7 (.deferred (some []))) 8 (.loop (rec .ready none))
  rw [World.size_alloc] at H8
  clear H4 H5
  refine (in67v (w1.heap.size + 1) g 1 A c s.l (fun i W => ∃ v : Value, Hp w W [(0, Asn.old w U), (1, isImg b s), (4, Asn.box g #[.slice A s.l.length c] 38), (5, Asn.row k56 56 (.slice A s.l.length c) s.l), (3, Asn.box g3 #[v] 38), (6, Asn.row k56 56 v (s.l.take i)), (7, Asn.obj w1.heap.size (.deferred (some []))), (8, Asn.obj (w1.heap.size + 1) (.loop (rec .ready none)))])
    (fun _ _ => False) _
    (fun _ _ ⟨_, H⟩ => ⟨H.cell 2 rfl 0 rfl, (H.row_C 3 rfl).2.2⟩) (fun _ _ _ ⟨v, H⟩ hb => ⟨v, H.same hb⟩) ?_ ⟨_, H8.keep [0, 2, 4, 5, 3, 6, 7, 8]⟩).mono ?_
  · rintro i W0 hi ⟨v, HJ⟩
    have H9 := HJ.box_new 9 #[.string (rd_T56 s.l (i : Int)).f0, .string (rd_T56 s.l (i : Int)).f1, .int .i64 (rd_T56 s.l (i : Int)).f2] 56
    refine hYield #[v56 (rd_T56 s.l (i : Int))] W0 (W0.alloc (.cells #[.string (rd_T56 s.l (i : Int)).f0, .string (rd_T56 s.l (i : Int)).f1, .int .i64 (rd_T56 s.l (i : Int)).f2] 56)) _ _ rfl (HJ.obj_at 7 rfl) (H9.obj_at 7 rfl) (fun K hK => by unfold v56; gi_wp2; exact hK) ?_
    have H10 := H9.put_obj 7 rfl rfl (.loop { rec .ready none with state := .busy })
    obtain ⟨Av, cv, rfl⟩ := H10.fact 5 rfl (fun S h => Kd.R_slice h)
    rw [show (s.l.take i).length = i by simp; omega] at H10
    have HT := Aside0.mk (take56 s.l i hi)
    generalize rd_T56 s.l (i : Int) = x at *
    generalize W0.heap.size = g8 at *
    generalize (W0.alloc (.cells #[.string x.f0, .string x.f1, .int .i64 x.f2] 56)).putObj (w1.heap.size + 1) (.loop { rec .ready none with state := .busy }) = W2 at *
    have q0 := H10.cell 8 rfl 0 rfl
    have q1 := H10.cell 8 rfl 1 rfl
    have q2 := H10.cell 8 rfl 2 rfl
    have y3 := H10.cell 4 rfl 0 rfl
    have hal := H10.box_new 10 #[.string x.f0, .string x.f1, .int .i64 x.f2] 56
    have HI := Aside0.mk hi
    clear hYield H9 HJ H8
    refine wpIn_block ?_
    refine region_round (by kernel_rfl) ?_
    go_wp2_with (first
      | ((with_reducible refine gate_builtin (b := .append) (xs := #[.tmp 9, .tmp 11]) rfl ?_); at_builtin; refine Hp.at_append k56 H10 5 rfl (.tmp 9) (.tmp 11) 38 56 (.agg #[.string ⟨#[]⟩, .string ⟨#[]⟩, .int .i64 0]) 40 rfl Try.underlying38 info56 rfl (by decide) (by omega) (.slice Av i cv) (s.l.take i) rfl rfl x [.string x.f0, .string x.f1, .int .i64 x.f2] ?hs ?hx (fun _ => k56_mkM _ _ _ _) (by have := HI.out; have := HL.out; simp; omega) ?_; (case hs => rfl); (case hx => rfl); intro v5 w5 H11; obtain ⟨A5, c5, hv5⟩ := H11.fact 5 rfl (fun S h => Kd.R_slice h); rw [show (s.l.take i ++ [x]).length = i + 1 by simp; have := HI.out; omega] at hv5; subst hv5; have y5 := H11.cell 4 rfl 0 (v := .slice Av i cv) rfl; have u5 := H11.unfrozen 4 rfl 0)
      | ((with_reducible refine gate_store (t := 38) (p := 3) rfl ?_); refine Hp.at_store H11 4 rfl rfl ?hg (T := 38) (z := 3) (x := ?vo) ?ho ?hn 0 (.slice A5 (i + 1) c5) ?hr (cs' := #[.slice A5 (i + 1) c5]) ?hc ?_; (case ho => rfl); (case hg => rfl); (case hn => rfl); (case hc => rfl); (case hr => first | (go_simp; done) | (go_simp; rfl)); intro w6 H12))
    rw [HT.out] at H12
    exact ⟨H12.obj_at 7 rfl, rfl, _, (H12.put_obj 7 rfl rfl (.loop (rec .ready none))).keep [0, 1, 2, 3, 4, 5, 6, 7]⟩
  · rintro e W2 ⟨hv, (⟨v, H13⟩ | ⟨i0, _, hf⟩)⟩
    · refine ⟨hv, .inl ⟨H13.obj_at 7 rfl, fun o' => ?_⟩⟩
      have H14 := (H13.put_obj 7 rfl rfl o').keep [0, 1, 4, 5, 6]
      rw [List.take_length] at H14
      generalize W2.putObj (w1.heap.size + 1) o' = W3 at H14 ⊢
      obtain ⟨A5, c5, rfl⟩ := H14.fact 3 rfl (fun S h => Kd.R_slice h)
      have HE : Hp w W3 [(0, Asn.old w U), (1, isImg b s), (3, Asn.box g3 #[.slice A5 s.l.length c5] 38), (6, Asn.row k56 56 (.slice A5 s.l.length c5) s.l), (7, Asn.obj w1.heap.size (.deferred (some [])))] := H14
      clear H14 hYield H8 H13
      obtain ⟨v0, H15⟩ := HE.open_ 1 rfl
      have H16 : Hp w W3 [(0, Asn.old w U), (1, Asn.box b #[.int .i64 s.ts, .string s.fr, v0, .bool true] 48), (3, Asn.box g3 #[.slice A5 s.l.length c5] 38), (6, Asn.row k56 56 (.slice A5 s.l.length c5) s.l), (7, Asn.obj w1.heap.size (.deferred (some []))), (2, Asn.row k56 56 v0 s.l)] := H15.split 1 2 rfl rfl (by decide)
      clear H15 HE
      have z3 := H16.cell 1 rfl 3 (v := .bool true) rfl
      have H17 := H16.box_new 9 #[.bool false] 4
      have hd1 := H17.obj_at 4 rfl
      have H18 := H17.put_obj 4 rfl rfl (.deferred none)
      clear H17
      go_wp2_with (go_at_call 34; refine (none_calls b _ true z3).mono ?_; rintro e w' ⟨rfl, rfl⟩)
      refine ⟨by simp, .inl ⟨_, _, rfl, run_takeDeferred hd1, ?_⟩⟩
      clear H16 hd1 z3
      refine ⟨.func (.func 47) #[] #[.pointer (some ⟨W3.heap.size, 0, none⟩), .pointer (some ⟨g3, 0, none⟩)], by simp [results, Try.f26, go_sem], .func (.func 47) #[] #[.pointer (some ⟨W3.heap.size, 0, none⟩), .pointer (some ⟨g3, 0, none⟩)], rfl, ?_⟩
      exact chk_end H18
    · exact hf.elim
end Go.Proofs.Ytkflgkmblebdmaa.Im

set_option linter.unusedVariables false
set_option linter.unusedSimpArgs false
namespace Go.Proofs.Ytkflgkmblebdmaa.Im
open Go.RowKit Go.Shelf Go.Proofs.Ytkflgkmblebdmaa.B Go.Proofs.YtkflgkmblebdmaaW.PrintWords Go.Proofs.YtkflgkmblebdmaaW.PrintLast Go.Proofs.YtkflgkmblebdmaaW.PrintMore Go.Proofs.YtkflgkmblebdmaaW.Mine Go.Proofs.YtkflgkmblebdmaaW.Hp
attribute [local go_sem] Oper.semAt_some
def lcT.T4 : Bool × List (List Nat × List Nat) := (true, [([], []), ([], []), ([1], [1]), ([0, 2], [0, 2]), ([3], [3]), ([4], [4]), ([4], [4]), ([4], [4]), ([6, 7, 4], [4, 6, 7]), ([8, 4], [4, 8]), ([5, 9, 4, 4], [4, 5, 9]), ([10, 4], [4, 10]), ([4, 11], [4, 11])])
def lcT.B4 : List Nat := [0, 0, 2, 7, 15, 31, 31, 31, 223, 479, 1023, 2047, 4095]
theorem lcT.tab4 : rtab .any (opsOf Try.f19 4) = lcT.T4 := by kernel_rfl
theorem lcT.bits4 : waitsOk lcT.T4.2 lcT.B4 = true := by kernel_rfl
set_option maxHeartbeats 16000000 in
set_option maxRecDepth 100000 in
theorem lawchunks_tr (k : Nat) (b : Nat) (s : S) (want : List S65) (A2 : Option Addr) (c2 : Nat) (hc2 : want.length ≤ c2) (hl : s.l.length ≤ 65536) (hwl : want.length = nch s.l) (hwi : ∀ i : Nat, i < nch s.l → rd_T65 want (i : Int) = ⟨(i : Int), piece s.l i, (top_ s.l i : Int) == (s.l.length : Int)⟩)
    (hsame : ∀ i : Nat, i < nch s.l → cressetref03_SameChunk.f k (i : Int) (piece s.l i) ((top_ s.l i : Int) == (s.l.length : Int)) (i : Int) (piece s.l i) ((top_ s.l i : Int) == (s.l.length : Int)) = some true) :
    Tr Try.prog 19 #[.pointer (some ⟨b, 0, none⟩), .slice A2 want.length c2] (Asn.rd k65 A2 want.length want) (isImg b s) (fun r => Asn.and (Asn.lift (r = .bool true)) (isImg b s)) := by
  refine Tr.intro fun w U H => ?_
  have HWL := Aside0.mk hwl
  have HWI := Aside0.mk hwi
  have HSM := Aside0.mk hsame
  clear hwl hwi hsame
  refine (callsIn_wide (n := 3)).1 (callsIn_of_wp_marks Try.func19 rfl trivial ?_ rfl)
  rw [wpIn_wide]
  simp only [Try.ntmps19, List.size_toArray, List.length_cons, List.length_nil, Nat.reduceAdd, Nat.reduceSub, Array.replicate_succ, Array.replicate_zero, List.push_toArray, List.append_toArray, List.nil_append, List.cons_append]
  go_wp2_with (first
    | ((with_reducible refine gate_dst (N := 3) rfl ?_); refine Hp.at_box H 3 ?hg (N := 3) ?hd (cs := #[.slice A2 want.length c2]) (t := 43) ?hr ?_; (case hd => rfl); (case hg => rfl); (case hr => first | (go_simp; done) | (go_simp; rfl)); intro g3 w3 H3)
    | ((with_reducible refine gate_dst (N := 4) rfl ?_); refine Hp.at_box H3 4 ?hg (N := 4) ?hd (cs := #[.bool false]) (t := 4) ?hr ?_; (case hd => rfl); (case hg => rfl); (case hr => first | (go_simp; done) | (go_simp; rfl)); intro g4 w4 H4)
    | ((with_reducible refine gate_dst (N := 5) rfl ?_); refine Hp.at_box H4 5 ?hg (N := 5) ?hd (cs := #[.int .i64 0]) (t := 3) ?hr ?_; (case hd => rfl); (case hg => rfl); (case hr => first | (go_simp; done) | (go_simp; rfl)); intro g5 w5 H5; have y5 := H5.cell 5 rfl 0 (v := .int .i64 0) rfl; have u5 := H5.unfrozen 5 rfl 0)
    | ((with_reducible refine gate_store (t := 3) (p := 5) rfl ?_); refine Hp.at_store H5 5 rfl rfl ?hg (T := 3) (z := 5) (x := ?vo) ?ho ?hn 0 (.int .i64 0) ?hr (cs' := #[.int .i64 0]) ?hc ?_; (case ho => rfl); (case hg => rfl); (case hn => rfl); (case hc => rfl); (case hr => first | (go_simp; done) | (go_simp; rfl)); clear y5 u5; intro w6 H6)
    | (go_at_call 26; refine (H6.call (chunks_tr b s hl) 2 rfl rfl (fun _ _ => trivial)).mono ?_; rintro e w7 ⟨r, rfl, H7⟩; obtain ⟨⟨b5, b3, A, c⟩, H8⟩ := H7.open_ 2 rfl; obtain rfl := H8.fact 2 rfl (fun S h => h.1); have H9 := (H8.imp 2 (A' := Asn.star (isImg b s) (isChk b5 b3 A c s.l)) rfl (fun S h => h.2)).split 2 6 rfl rfl (by decide); have H10 := H9.split 6 7 rfl rfl (by decide); have H11 := H10.split 7 8 rfl rfl (by decide); have HE : Hp w w7 [(0, Asn.old w U), (0, Asn.rd k65 A2 want.length want), (1, isImg b s), (3, Asn.box g3 #[.slice A2 want.length c2] 43), (4, Asn.box g4 #[.bool false] 4), (5, Asn.box g5 #[.int .i64 0] 3), (6, Asn.box b5 #[.bool false] 4), (7, Asn.box b3 #[.slice A s.l.length c] 38), (8, Asn.row k56 56 (.slice A s.l.length c) s.l)] := H11; clear H H3 H4 H5 H6 H7 H8 H9 H10 H11))
  have HL := Aside0.mk hl
  have hcc := (HE.row_C 8 rfl).2.1
  refine wpIn_wide.1 (rf_walkA (n := 3) (by omega) (gf := 47) (lb := #[.pointer (some ⟨b5, 0, none⟩), .pointer (some ⟨b3, 0, none⟩)]) rfl (enters_of Try.func47 (by kernel_rfl) rfl) ?_)
  intro rec hYield
  have HN := obj_new (obj_new HE 9 (.deferred (some []))) 10 (.loop (rec .ready none))
  rw [World.size_alloc] at HN
  clear HE
  refine (in47v (w7.heap.size + 1) b5 b3 1 A c s.l hl hcc (fun i W => Hp w W [(0, Asn.old w U), (0, Asn.rd k65 A2 want.length want), (1, isImg b s), (3, Asn.box g3 #[.slice A2 want.length c2] 43), (4, Asn.box g4 #[.bool false] 4), (5, Asn.box g5 #[.int .i64 i] 3), (6, Asn.box b5 #[.bool false] 4), (7, Asn.box b3 #[.slice A s.l.length c] 38), (8, Asn.row k56 56 (.slice A s.l.length c) s.l), (9, Asn.obj w7.heap.size (.deferred (some []))), (10, Asn.obj (w7.heap.size + 1) (.loop (rec .ready none)))])
    (fun _ _ => False) _
    (fun _ _ H => ⟨H.cell 6 rfl 0 rfl, H.cell 7 rfl 0 rfl, (H.row_C 8 rfl).2.2⟩) (fun _ _ _ H hb => H.same hb) ?_ HN).mono ?_
  · intro i W0 W1 g v hi HJ hB hC
    have hS := Aside0.mk (HSM.out i hi)
    have hX := HWI.out i hi
    have hlt : i < want.length := by have := HWL.out; omega
    have H1 : Hp w W1 [(0, Asn.old w U), (0, Asn.rd k65 A2 want.length want), (1, isImg b s), (3, Asn.box g3 #[.slice A2 want.length c2] 43), (4, Asn.box g4 #[.bool false] 4), (5, Asn.box g5 #[.int .i64 i] 3), (6, Asn.box b5 #[.bool false] 4), (7, Asn.box b3 #[.slice A s.l.length c] 38), (8, Asn.row k56 56 (.slice A s.l.length c) s.l), (9, Asn.obj w7.heap.size (.deferred (some []))), (10, Asn.obj (w7.heap.size + 1) (.loop (rec .ready none))), (11, Asn.row k56 56 v (piece s.l i)), (12, Asn.box g #[.int .i64 i, v, .bool ((top_ s.l i : Int) == (s.l.length : Int))] 65)] := (HJ.new 11 hB hC).split 11 12 rfl rfl (by decide)
    clear HJ hB hC HN
    generalize piece s.l i = pc at *
    generalize ((top_ s.l i : Int) == (s.l.length : Int)) = bb at *
    obtain ⟨Av, cv, rfl⟩ := H1.fact 11 rfl (fun S h => Kd.R_slice h)
    have H2 := H1.box_new 13 #[.int .i64 i, .slice Av pc.length cv, .bool bb] 65
    refine hYield #[.agg #[.int .i64 i, .slice Av pc.length cv, .bool bb]] W1 (W1.alloc (.cells #[.int .i64 i, .slice Av pc.length cv, .bool bb] 65)) _ _ rfl (H1.obj_at 10 rfl) (H2.obj_at 10 rfl) (fun K hK => by gi_wp2; exact hK) ?_
    have H3 := H2.put_obj 10 rfl rfl (.loop { rec .ready none with state := .busy })
    generalize W1.heap.size = g13 at *
    generalize (W1.alloc (.cells #[.int .i64 i, .slice Av pc.length cv, .bool bb] 65)).putObj (w7.heap.size + 1) (.loop { rec .ready none with state := .busy }) = W2 at *
    obtain ⟨ad, A1, c1, e1, x0, x1, x2, l1, g1⟩ := at_T65 (H3.reads 1 rfl) (i : Int) (by omega) (by omega)
    cases e1
    rw [Int.toNat_natCast, hX] at x0 x1 x2
    rw [hX] at l1 g1
    dsimp only at x0 x1 x2 l1 g1
    have y0 := H3.cell 13 rfl 0 rfl
    have y1 := H3.cell 13 rfl 1 rfl
    have y2 := H3.cell 13 rfl 2 rfl
    have y3 := H3.cell 3 rfl 0 rfl
    have y5 := H3.cell 5 rfl 0 rfl
    obtain ⟨_, hcv, hCv⟩ := H3.row_C 11 rfl
    have HCV := Aside0.mk hCv
    have HCG := Aside0.mk g1
    have p1 := eq_true (show (0 : Int) ≤ (i : Int) by omega)
    have p2 := eq_true (show (i : Int) < (want.length : Int) by omega)
    have p3 : decide (want.length ≤ i) = false := decide_eq_false (by omega)
    have p4 : decide ((want.length : Int) ≤ (i : Int)) = false := decide_eq_false (by omega)
    have HI := Aside0.mk hi
    have dr : Below W2.heap.size W2 W2.drew := below_drew (Below.refl _ _)
    clear hYield hX hCv g1 H1 H2 hi hlt
    gi_wp2
    refine startQ_ (m := 13) (S := fun w' => w'.cell? ⟨g5, 0, none⟩ = some (.int .i64 (i : Int)) ∧ w'.cell? ⟨g3, 0, none⟩ = some (.slice (some ad) want.length c2) ∧ w'.cell? ⟨g13, 0, none⟩ = some (.int .i64 (i : Int)) ∧ w'.cell? ⟨g13, 1, none⟩ = some (.slice Av pc.length cv) ∧ w'.cell? ⟨g13, 2, none⟩ = some (.bool bb) ∧ w'.cell? (ad.add (i * 3)) = some (.int .i64 (i : Int)) ∧ w'.cell? ⟨(ad.add (i * 3)).block, (ad.add (i * 3)).off + 1, none⟩ = some (.slice A1 pc.length c1) ∧ w'.cell? ⟨(ad.add (i * 3)).block, (ad.add (i * 3)).off + 2, none⟩ = some (.bool bb)) (ds := []) #[false, false, false, false, false, false, false, false, false, false, false, false, false] (by kernel_rfl) rfl rfl (by kernel_rfl) ⟨bc dr y5, bc dr y3, bc dr y0, bc dr y1, bc dr y2, bc dr x0, bc dr x1, bc dr x2⟩ (fun hHeld => ?_); refine with_tabW lcT.tab4 lcT.bits4 (fun HT_ HW_ => ?_)
    refine take_ (i := 0) (N := some 10) (v := ?_) (a' := ?_) #[true, false, false, false, false, false, false, false, false, false, false, false, false] rfl rfl (take_ofW HT_.out HW_.out (by kernel_rfl)) (fun _ _ _ h => h) (Or.inl ⟨by rfl, ?_⟩) hHeld ?_ ?_
    rotate_left
    · rintro w' ⟨s0, s1, s2, s3, s4, s5, s6, s7⟩
      go_simp
      with_reducible rfl
    rotate_left
    · simp only [Act.put, List.setIfInBounds_toArray, List.set_cons_zero, List.set_cons_succ, i64_w, i32_w]
      rfl
    refine take_ (i := 1) (N := some 11) (v := ?_) (a' := ?_) #[true, true, false, false, false, false, false, false, false, false, false, false, false] rfl rfl (take_ofW HT_.out HW_.out (by kernel_rfl)) (fun _ _ _ h => h) (Or.inl ⟨by rfl, ?_⟩) hHeld ?_ ?_
    rotate_left
    · rintro w' ⟨s0, s1, s2, s3, s4, s5, s6, s7⟩
      go_simp
      with_reducible rfl
    rotate_left
    · simp only [Act.put, List.setIfInBounds_toArray, List.set_cons_zero, List.set_cons_succ, i64_w, i32_w]
      rfl
    refine pure_ (i := 2) (N := some 12) (v := ?_) (a' := ?_) #[true, true, true, false, false, false, false, false, false, false, false, false, false] rfl rfl (any_of HT_.out (by kernel_rfl)) (fun _ _ _ h => h) (Or.inl ⟨by rfl, ?_⟩) ?_ ?_
    rotate_left
    · intro w'
      go_simp
      with_reducible rfl
    rotate_left
    · simp only [Act.put, List.setIfInBounds_toArray, List.set_cons_zero, List.set_cons_succ, i64_w, i32_w]
      rfl
    refine pure_ (i := 3) (N := some 13) (v := ?_) (a' := ?_) #[true, true, true, true, false, false, false, false, false, false, false, false, false] rfl rfl (any_of HT_.out (by kernel_rfl)) (fun _ _ _ h => h) (Or.inl ⟨by rfl, ?_⟩) ?_ ?_
    rotate_left
    · intro w'
      go_simp
      with_reducible rfl
    rotate_left
    · simp only [Act.put, List.setIfInBounds_toArray, List.set_cons_zero, List.set_cons_succ, i64_w, i32_w]
      rfl
    refine pure_ (i := 4) (N := some 14) (v := ?_) (a' := ?_) #[true, true, true, true, true, false, false, false, false, false, false, false, false] rfl rfl (any_of HT_.out (by kernel_rfl)) (fun _ _ _ h => h) (Or.inl ⟨by rfl, ?_⟩) ?_ ?_
    rotate_left
    · intro w'
      go_simp
      with_reducible rfl
    rotate_left
    · simp only [Act.put, List.setIfInBounds_toArray, List.set_cons_zero, List.set_cons_succ, i64_w, i32_w]
      rfl
    refine take_ (i := 5) (N := some 15) (v := ?_) (a' := ?_) #[true, true, true, true, true, true, false, false, false, false, false, false, false] rfl rfl (take_ofW HT_.out HW_.out (by kernel_rfl)) (fun _ _ _ h => h) (Or.inl ⟨by rfl, ?_⟩) hHeld ?_ ?_
    rotate_left
    · rintro w' ⟨s0, s1, s2, s3, s4, s5, s6, s7⟩
      go_simp
      with_reducible rfl
    rotate_left
    · simp only [Act.put, List.setIfInBounds_toArray, List.set_cons_zero, List.set_cons_succ, i64_w, i32_w]
      rfl
    refine take_ (i := 6) (N := some 16) (v := ?_) (a' := ?_) #[true, true, true, true, true, true, true, false, false, false, false, false, false] rfl rfl (take_ofW HT_.out HW_.out (by kernel_rfl)) (fun _ _ _ h => h) (Or.inl ⟨by rfl, ?_⟩) hHeld ?_ ?_
    rotate_left
    · rintro w' ⟨s0, s1, s2, s3, s4, s5, s6, s7⟩
      go_simp
      with_reducible rfl
    rotate_left
    · simp only [Act.put, List.setIfInBounds_toArray, List.set_cons_zero, List.set_cons_succ, i64_w, i32_w]
      rfl
    refine take_ (i := 7) (N := some 17) (v := ?_) (a' := ?_) #[true, true, true, true, true, true, true, true, false, false, false, false, false] rfl rfl (take_ofW HT_.out HW_.out (by kernel_rfl)) (fun _ _ _ h => h) (Or.inl ⟨by rfl, ?_⟩) hHeld ?_ ?_
    rotate_left
    · rintro w' ⟨s0, s1, s2, s3, s4, s5, s6, s7⟩
      go_simp
      with_reducible rfl
    rotate_left
    · simp only [Act.put, List.setIfInBounds_toArray, List.set_cons_zero, List.set_cons_succ, i64_w, i32_w]
      rfl
    refine pure_ (i := 8) (N := some 18) (v := ?_) (a' := ?_) #[true, true, true, true, true, true, true, true, true, false, false, false, false] rfl rfl (any_of HT_.out (by kernel_rfl)) (fun _ _ _ h => h) (Or.inl ⟨by rfl, ?_⟩) ?_ ?_
    rotate_left
    · intro w'
      go_simp
      with_reducible rfl
    rotate_left
    · simp only [Act.put, List.setIfInBounds_toArray, List.set_cons_zero, List.set_cons_succ, i64_w, i32_w]
      rfl
    refine take_ (i := 9) (N := some 19) (v := ?_) (a' := ?_) #[true, true, true, true, true, true, true, true, true, true, false, false, false] rfl rfl (take_ofW HT_.out HW_.out (by kernel_rfl)) (fun _ _ _ h => h) (Or.inl ⟨by rfl, ?_⟩) hHeld ?_ ?_
    rotate_left
    · rintro w' ⟨s0, s1, s2, s3, s4, s5, s6, s7⟩
      go_simp
      with_reducible rfl
    rotate_left
    · simp only [Act.put, List.setIfInBounds_toArray, List.set_cons_zero, List.set_cons_succ, i64_w, i32_w]
      rfl
    refine one_ (i := 10) (N := some 20) #[true, true, true, true, true, true, true, true, true, true, true, false, false] rfl rfl (one_of HT_.out (by kernel_rfl)) (by decide) (fun Kx_ hKx_ => ?_)
    refine goes_ Try.func43 (by kernel_rfl) rfl #[.agg #[.int .i64 (i : Int), .slice Av pc.length cv, .bool bb], .agg #[.int .i64 (i : Int), .slice A1 pc.length c1, .bool bb]] (by rfl) rfl rfl (by (try simp only [List.map_toArray, List.map_cons, List.map_nil]); first | done | rfl) ?_
    refine (cressetref03_SameChunk.calls k (i : Int) Av cv pc bb (i : Int) A1 c1 pc bb true _ (Kd.C_drew HCV.out) hcv (Kd.C_drew HCG.out) l1 hS.out).mono ?_
    rintro e w26 ⟨rfl, hb26⟩
    refine ⟨_, rfl, ?_⟩
    refine hKx_.out _ _ ⟨(bc hb26 (bc dr y5)), (bc hb26 (bc dr y3)), (bc hb26 (bc dr y0)), (bc hb26 (bc dr y1)), (bc hb26 (bc dr y2)), (bc hb26 (bc dr x0)), (bc hb26 (bc dr x1)), (bc hb26 (bc dr x2))⟩ (fun hHeld => ?_)
    clear hKx_ Kx_
    refine norm_ (a' := ?_) ?_ ?_
    rotate_left
    · show Act.put _ (some 20) _ = _
      simp only [Act.put, List.setIfInBounds_toArray, List.set_cons_zero, List.set_cons_succ, i64_w, i32_w]
      rfl
    refine pure_ (i := 11) (N := some 21) (v := ?_) (a' := ?_) #[true, true, true, true, true, true, true, true, true, true, true, true, false] rfl rfl (any_of HT_.out (by kernel_rfl)) (fun _ _ _ h => h) (Or.inl ⟨by rfl, ?_⟩) ?_ ?_
    rotate_left
    · intro w'
      go_simp
      with_reducible rfl
    rotate_left
    · simp only [Act.put, List.setIfInBounds_toArray, List.set_cons_zero, List.set_cons_succ, i64_w, i32_w]
      rfl
    refine pure_ (i := 12) (N := some 22) (v := ?_) (a' := ?_) #[true, true, true, true, true, true, true, true, true, true, true, true, true] rfl rfl (any_of HT_.out (by kernel_rfl)) (fun _ _ _ h => h) (Or.inl ⟨by rfl, ?_⟩) ?_ ?_
    rotate_left
    · intro w'
      go_simp
      with_reducible rfl
    rotate_left
    · simp only [Act.put, List.setIfInBounds_toArray, List.set_cons_zero, List.set_cons_succ, i64_w, i32_w]
      rfl
    refine done_ (done_of HT_.out (by kernel_rfl)) ?_
    refine nrm_in ?_
    have H4 := H3.drew.same hb26
    have u5 := H4.unfrozen 5 rfl 0
    have hi2 : i ≤ 5000 := by have h1 := HI.out; have h2 := HL.out; unfold nch at h1; omega
    obtain ⟨z5, _⟩ := hHeld
    clear HT_ HW_ hb26 y0 y1 y2 y3 y5 x0 x1 x2 HCV HCG dr H3
    gi_wp2
    have H5 := H4.box_set 5 rfl rfl 0 (.int .i64 ((i : Int) + 1))
    exact ⟨H5.obj_at 10 rfl, true, rfl, .inl ⟨rfl, (H5.put_obj 10 rfl rfl (.loop (rec .ready none))).keep [0, 1, 2, 3, 4, 5, 6, 7, 8, 9, 10], (H5.put_obj 10 rfl rfl (.loop (rec .ready none))).obj_at 12 rfl⟩⟩
  · rintro e W2 ⟨hv, (H13 | ⟨i0, _, hf⟩)⟩
    · refine ⟨hv, .inl ⟨H13.obj_at 10 rfl, fun o' => ?_⟩⟩
      have H14 := (H13.put_obj 10 rfl rfl o').keep [0, 2, 3, 4, 5, 9]
      generalize W2.putObj (w7.heap.size + 1) o' = W3 at H14 ⊢
      have HE : Hp w W3 [(0, Asn.old w U), (1, isImg b s), (3, Asn.box g3 #[.slice A2 want.length c2] 43), (4, Asn.box g4 #[.bool false] 4), (5, Asn.box g5 #[.int .i64 (nch s.l : Nat)] 3), (9, Asn.obj w7.heap.size (.deferred (some [])))] := H14
      clear H14 hYield HN H13
      have hq : ((nch s.l : Nat) : Int) = (want.length : Int) := by have := HWL.out; omega
      rw [hq] at HE
      clear hq
      have y3 := HE.cell 2 rfl 0 rfl
      have y4 := HE.cell 3 rfl 0 (v := .bool false) rfl
      have u4 := HE.unfrozen 3 rfl 0
      have y5 := HE.cell 4 rfl 0 rfl
      have H15 := HE.box_set 3 rfl rfl 0 (.bool true)
      have hd1 := H15.obj_at 5 rfl
      have H16 := H15.put_obj 5 rfl rfl (.deferred none)
      have hcc2 := H16.cell 3 rfl 0 (v := .bool true) rfl
      clear H15 HE
      go_wp2
      refine ⟨by simp, .inl ⟨_, _, rfl, run_takeDeferred hd1, ?_⟩⟩
      refine ⟨.bool true, ?_, _, rfl, ?_⟩
      · simp [results, Try.f19, go_sem, hcc2]
      · exact (H16.imp 1 (A' := Asn.and (Asn.lift (Value.bool true = Value.bool true)) (isImg b s)) rfl (fun S h => ⟨rfl, h⟩)).keep [0, 1]
    · exact hf.elim
end Go.Proofs.Ytkflgkmblebdmaa.Im

set_option linter.unusedVariables false
set_option linter.unusedSimpArgs false
namespace Go.Proofs.Ytkflgkmblebdmaa.Im
open Go.RowKit Go.Shelf Go.Proofs.Ytkflgkmblebdmaa.B Go.Proofs.YtkflgkmblebdmaaW.PrintWords Go.Proofs.YtkflgkmblebdmaaW.PrintLast Go.Proofs.YtkflgkmblebdmaaW.PrintMore Go.Proofs.YtkflgkmblebdmaaW.Mine Go.Proofs.YtkflgkmblebdmaaW.Hp
theorem shutR {w0 w : World} {U : Nat → Prop} {X : Asn} {b : Nat} {v : Value} {s : SR} {r : Value} (H : Hp w0 w [(0, Asn.old w0 U), (0, X), (1, Asn.box b #[.int .i64 s.ts, .string s.last, .bool s.any, v] 40), (2, Asn.row k56 56 v s.l)]) : Hp w0 w [(0, Asn.old w0 U), (1, Asn.and (Asn.lift (r = r)) (isRef b s))] :=
  ((H.join 2 3 rfl rfl (by decide) rfl rfl).imp 2 (A' := Asn.and (Asn.lift (r = r)) (isRef b s)) rfl (fun S h => ⟨rfl, _, h⟩)).keep [0, 2]
set_option maxHeartbeats 8000000 in
set_option maxRecDepth 100000 in
theorem addR_tr (k : Nat) (b : Nat) (s s' : SR) (key : ByteArray) (A : Option Addr) (c : Nat) (l : List S87) (e : Int) (hc : l.length ≤ c) (hk : cressetref15_Check.f k l = some (Lib.chk l)) (hk2 : cressetref15_At.f k l s.ts = some (Lib.seen l s.ts)) (h : addR s key l = (e, s')) :
    Tr Try.prog 14 #[.pointer (some ⟨b, 0, none⟩), .string key, .slice A l.length c] (Asn.rd k87 A l.length l) (isRef b s) (fun r => Asn.and (Asn.lift (r = .int .i64 e)) (isRef b s')) := by
  refine Tr.intro fun w U H0 => ?_
  obtain ⟨v, H1⟩ := H0.open_ 2 rfl
  have H : Hp w w [(0, Asn.old w U), (0, Asn.rd k87 A l.length l), (1, Asn.box b #[.int .i64 s.ts, .string s.last, .bool s.any, v] 40), (2, Asn.row k56 56 v s.l)] := H1.split 2 2 rfl rfl (by decide)
  clear H0 H1
  obtain ⟨Av, cv, rfl⟩ := H.fact 3 rfl (fun S h => Kd.R_slice h)
  have z0 : w.cell? ⟨b, 0, none⟩ = some (.int .i64 s.ts) := H.cell 2 rfl 0 rfl
  have z1 : w.cell? ⟨b, 1, none⟩ = some (.string s.last) := H.cell 2 rfl 1 rfl
  have z2 : w.cell? ⟨b, 2, none⟩ = some (.bool s.any) := H.cell 2 rfl 2 rfl
  have z3 : w.cell? ⟨b, 3, none⟩ = some (.slice Av s.l.length cv) := H.cell 2 rfl 3 rfl
  have hkey := keyR_eq key
  unfold addR at h
  generalize keyE key = e1 at h hkey
  generalize Lib.chk l = e2 at h hk
  generalize Lib.seen l s.ts = sn at h hk2
  obtain ⟨r1, r2, r3, r4⟩ := sn
  by_cases q1 : e1 = 0
  · subst q1
    rw [if_neg (by simp)] at h
    by_cases q2 : s.any = true ∧ kle key s.last = true
    · rw [if_pos q2] at h
      obtain ⟨rfl, rfl⟩ := Prod.mk.inj h
      obtain ⟨q2a, q2b⟩ := q2
      unfold kle at q2b
      rw [q2a] at z2
      clear h
      go_enter Try.func14, Try.ntmps14
      go_wp2_with (go_at_call 39; refine (cressetref03_Key.calls key _ _ hkey).mono ?_; rintro e w' ⟨rfl, ⟨nd, rfl⟩⟩)
      go_ret
      exact ⟨_, rfl, shutR (H.drewN _)⟩
    · rw [if_neg q2] at h
      by_cases q3 : e2 = 0
      · subst q3
        rw [if_neg (by simp)] at h
        have HW : Aside0 (s.any = false ∨ (s.any = true ∧ (Op.bytesLess key.toList s.last.toList || key.toList == s.last.toList) = false)) := ⟨by unfold kle at q2; cases hh : s.any <;> cases hb : (Op.bytesLess key.toList s.last.toList || key.toList == s.last.toList) <;> simp_all⟩
        clear q2
        by_cases q4 : r4 = true ∧ r3 = false
        · rw [if_pos q4] at h
          obtain ⟨rfl, rfl⟩ := q4
          by_cases q5 : (s.l.length : Int) ≥ 65536
          · rw [if_pos q5] at h
            obtain ⟨rfl, rfl⟩ := Prod.mk.inj h
            clear h
            have q5b : decide (65536 ≤ (s.l.length : Int)) = true := decide_eq_true q5
            rcases HW.out with ha | ⟨ha, hb⟩
            all_goals
              (rw [ha] at z2
               go_enter Try.func14, Try.ntmps14
               go_wp2_with (first | (go_at_call 39; refine (cressetref03_Key.calls key _ _ hkey).mono ?_; rintro e w' ⟨rfl, ⟨nd, rfl⟩⟩) | (go_at_call 40; refine (cressetref15_Check.calls k _ _ _ _ _ ((H.drewN _).reads 1 rfl) hc hk).mono ?_; rintro e w1 ⟨rfl, hb⟩; have H1 := (H.drewN _).same hb; clear hb; have y0 : w1.cell? ⟨b, 0, none⟩ = some (.int .i64 s.ts) := H1.cell 2 rfl 0 rfl) | (go_at_call 41; refine (cressetref15_At.calls k _ _ l s.ts r1 r2 _ _ _ (H1.reads 1 rfl) hc hk2).mono ?_; rintro e w2 ⟨rfl, hb⟩; have H2 := H1.same hb; clear hb) | ((with_reducible refine gate_dst (N := 9) rfl ?_); refine Hp.at_box H2 3 ?hg (N := 9) ?hd (cs := #[.int .i64 0, .string ⟨#[]⟩, .bool false]) (t := 87) ?hr ?_; (case hd => rfl); (case hg => rfl); (case hr => first | (go_simp; done) | (go_simp; rfl)); intro g w3 H3; have x0 : w3.cell? ⟨g, 0, none⟩ = some (.int .i64 0) := H3.cell 4 rfl 0 rfl; have x1 : w3.cell? ⟨g, 1, none⟩ = some (.string ⟨#[]⟩) := H3.cell 4 rfl 1 rfl; have x2 : w3.cell? ⟨g, 2, none⟩ = some (.bool false) := H3.cell 4 rfl 2 rfl; have u0 := H3.unfrozen 4 rfl 0; have u1 := H3.unfrozen 4 rfl 1; have u2 := H3.unfrozen 4 rfl 2) | ((with_reducible refine gate_store (t := 87) (p := 9) rfl ?_); go_loud (refine Hp.at_sets H3 4 rfl rfl ?hg (T := 87) (z := 9) (x := ?vo) ?ho ?hn 0 [.int .i64 r1, .string r2, .bool false] ?hr (cs' := #[.int .i64 r1, .string r2, .bool false]) ?hc ?_); (case ho => rfl); (case hg => rfl); (case hn => rfl); (case hr => first | (go_simp; done) | (go_simp; rfl)); (case hc => rfl); clear x0 x1 x2 u0 u1 u2; intro w4 H4; have x0 := H4.cell 4 rfl 0 (v := .int .i64 r1) rfl; have x1 := H4.cell 4 rfl 1 (v := .string r2) rfl; have x2 := H4.cell 4 rfl 2 (v := .bool false) rfl; have t2 := H4.cell 2 rfl 2 (v := .bool s.any) rfl; have t3 := H4.cell 2 rfl 3 (v := .slice Av s.l.length cv) rfl; have t1 := H4.cell 2 rfl 1 (v := .string s.last) rfl; have v1 := H4.unfrozen 2 rfl 1; have v2 := H4.unfrozen 2 rfl 2))
               go_ret
               exact ⟨_, rfl, shutR (H4.keep [0, 1, 2, 3])⟩)
          · rw [if_neg q5] at h
            obtain ⟨rfl, rfl⟩ := Prod.mk.inj h
            clear h
            have q5b : decide (65536 ≤ (s.l.length : Int)) = false := decide_eq_false q5
            rcases HW.out with ha | ⟨ha, hb⟩
            all_goals
              (rw [ha] at z2
               go_enter Try.func14, Try.ntmps14
               go_wp2_with (first | (go_at_call 39; refine (cressetref03_Key.calls key _ _ hkey).mono ?_; rintro e w' ⟨rfl, ⟨nd, rfl⟩⟩) | (go_at_call 40; refine (cressetref15_Check.calls k _ _ _ _ _ ((H.drewN _).reads 1 rfl) hc hk).mono ?_; rintro e w1 ⟨rfl, hb⟩; have H1 := (H.drewN _).same hb; clear hb; have y0 : w1.cell? ⟨b, 0, none⟩ = some (.int .i64 s.ts) := H1.cell 2 rfl 0 rfl) | (go_at_call 41; refine (cressetref15_At.calls k _ _ l s.ts r1 r2 _ _ _ (H1.reads 1 rfl) hc hk2).mono ?_; rintro e w2 ⟨rfl, hb⟩; have H2 := H1.same hb; clear hb) | ((with_reducible refine gate_dst (N := 9) rfl ?_); refine Hp.at_box H2 3 ?hg (N := 9) ?hd (cs := #[.int .i64 0, .string ⟨#[]⟩, .bool false]) (t := 87) ?hr ?_; (case hd => rfl); (case hg => rfl); (case hr => first | (go_simp; done) | (go_simp; rfl)); intro g w3 H3; have x0 : w3.cell? ⟨g, 0, none⟩ = some (.int .i64 0) := H3.cell 4 rfl 0 rfl; have x1 : w3.cell? ⟨g, 1, none⟩ = some (.string ⟨#[]⟩) := H3.cell 4 rfl 1 rfl; have x2 : w3.cell? ⟨g, 2, none⟩ = some (.bool false) := H3.cell 4 rfl 2 rfl; have u0 := H3.unfrozen 4 rfl 0; have u1 := H3.unfrozen 4 rfl 1; have u2 := H3.unfrozen 4 rfl 2) | ((with_reducible refine gate_store (t := 87) (p := 9) rfl ?_); go_loud (refine Hp.at_sets H3 4 rfl rfl ?hg (T := 87) (z := 9) (x := ?vo) ?ho ?hn 0 [.int .i64 r1, .string r2, .bool false] ?hr (cs' := #[.int .i64 r1, .string r2, .bool false]) ?hc ?_); (case ho => rfl); (case hg => rfl); (case hn => rfl); (case hr => first | (go_simp; done) | (go_simp; rfl)); (case hc => rfl); clear x0 x1 x2 u0 u1 u2; intro w4 H4; have x0 := H4.cell 4 rfl 0 (v := .int .i64 r1) rfl; have x1 := H4.cell 4 rfl 1 (v := .string r2) rfl; have x2 := H4.cell 4 rfl 2 (v := .bool false) rfl; have t2 := H4.cell 2 rfl 2 (v := .bool s.any) rfl; have t3 := H4.cell 2 rfl 3 (v := .slice Av s.l.length cv) rfl; have t1 := H4.cell 2 rfl 1 (v := .string s.last) rfl; have v1 := H4.unfrozen 2 rfl 1; have v2 := H4.unfrozen 2 rfl 2))
               have hdr := H4.drew
               have hal := (H4.box_new 9 #[.string key, .string r2, .int .i64 r1] 56).drew
               have s0 := hal.cell 2 rfl 3 (v := .slice Av s.l.length cv) rfl
               have s1 := hal.cell 4 rfl 0 (v := .int .i64 r1) rfl
               have s2 := hal.cell 4 rfl 1 (v := .string r2) rfl
               go_region_law (first | (refine Hp.step_append k56 H4.drew 3 ?hw (.tmp 58) (.tmp 65) 38 56 (.agg #[.string ⟨#[]⟩, .string ⟨#[]⟩, .int .i64 0]) 40 rfl Try.underlying38 info56 rfl (by decide) (by omega) (.slice Av s.l.length cv) s.l rfl rfl (⟨key, r2, r1⟩ : S56) [.string key, .string r2, .int .i64 r1] ?hs ?hx (fun _ => k56_mkM _ _ _ _) (by omega) ?_; (case hw => rfl); (case hs => rfl); (case hx => rfl); intro v5 w5 H5; obtain ⟨A5, c5, rfl⟩ := H5.fact 3 rfl (fun S h => Kd.R_slice h); have t5 := H5.cell 2 rfl 3 (v := .slice Av s.l.length cv) rfl; have t6 := H5.unfrozen 2 rfl 3))
               all_goals (clear s0 s1 s2 hal hdr z0 z1 z2 z3 x0 x1 x2 t1 t2 t3 v1 v2 y0 t5 t6; rw [show (s.l ++ [(⟨key, r2, r1⟩ : S56)]).length = s.l.length + 1 by simp] at H5; have H6 := H5.box_set 2 rfl rfl 3 (.slice A5 (s.l.length + 1) c5); have t2 := H6.cell 2 rfl 2 (v := .bool s.any) rfl; have t1 := H6.cell 2 rfl 1 (v := .string s.last) rfl; have v1 := H6.unfrozen 2 rfl 1; have v2 := H6.unfrozen 2 rfl 2; go_wp2; go_ret; exact ⟨_, rfl, shutR (s := ⟨s.ts, key, true, s.l ++ [⟨key, r2, r1⟩]⟩) (((H6.box_set 2 rfl rfl 2 (.bool true)).box_set 2 rfl rfl 1 (.string key)).keep [0, 1, 2, 3])⟩))
        · rw [if_neg q4] at h
          obtain ⟨rfl, rfl⟩ := Prod.mk.inj h
          clear h
          have hq : Aside0 (r4 = false ∨ (r4 = true ∧ r3 = true)) := ⟨by cases r4 <;> cases r3 <;> simp_all⟩
          clear q4
          rcases hq.out with rfl | ⟨rfl, rfl⟩
          · rcases HW.out with ha | ⟨ha, hb⟩
            all_goals
              (rw [ha] at z2
               go_enter Try.func14, Try.ntmps14
               go_wp2_with (first | (go_at_call 39; refine (cressetref03_Key.calls key _ _ hkey).mono ?_; rintro e w' ⟨rfl, ⟨nd, rfl⟩⟩) | (go_at_call 40; refine (cressetref15_Check.calls k _ _ _ _ _ ((H.drewN _).reads 1 rfl) hc hk).mono ?_; rintro e w1 ⟨rfl, hb⟩; have H1 := (H.drewN _).same hb; clear hb; have y0 : w1.cell? ⟨b, 0, none⟩ = some (.int .i64 s.ts) := H1.cell 2 rfl 0 rfl) | (go_at_call 41; refine (cressetref15_At.calls k _ _ l s.ts r1 r2 _ _ _ (H1.reads 1 rfl) hc hk2).mono ?_; rintro e w2 ⟨rfl, hb⟩; have H2 := H1.same hb; clear hb) | ((with_reducible refine gate_dst (N := 9) rfl ?_); refine Hp.at_box H2 3 ?hg (N := 9) ?hd (cs := #[.int .i64 0, .string ⟨#[]⟩, .bool false]) (t := 87) ?hr ?_; (case hd => rfl); (case hg => rfl); (case hr => first | (go_simp; done) | (go_simp; rfl)); intro g w3 H3; have x0 : w3.cell? ⟨g, 0, none⟩ = some (.int .i64 0) := H3.cell 4 rfl 0 rfl; have x1 : w3.cell? ⟨g, 1, none⟩ = some (.string ⟨#[]⟩) := H3.cell 4 rfl 1 rfl; have x2 : w3.cell? ⟨g, 2, none⟩ = some (.bool false) := H3.cell 4 rfl 2 rfl; have u0 := H3.unfrozen 4 rfl 0; have u1 := H3.unfrozen 4 rfl 1; have u2 := H3.unfrozen 4 rfl 2) | ((with_reducible refine gate_store (t := 87) (p := 9) rfl ?_); go_loud (refine Hp.at_sets H3 4 rfl rfl ?hg (T := 87) (z := 9) (x := ?vo) ?ho ?hn 0 [.int .i64 r1, .string r2, .bool r3] ?hr (cs' := #[.int .i64 r1, .string r2, .bool r3]) ?hc ?_); (case ho => rfl); (case hg => rfl); (case hn => rfl); (case hr => first | (go_simp; done) | (go_simp; rfl)); (case hc => rfl); clear x0 x1 x2 u0 u1 u2; intro w4 H4; have x0 := H4.cell 4 rfl 0 (v := .int .i64 r1) rfl; have x1 := H4.cell 4 rfl 1 (v := .string r2) rfl; have x2 := H4.cell 4 rfl 2 (v := .bool r3) rfl; have t2 := H4.cell 2 rfl 2 (v := .bool s.any) rfl; have t3 := H4.cell 2 rfl 3 (v := .slice Av s.l.length cv) rfl; have t1 := H4.cell 2 rfl 1 (v := .string s.last) rfl; have v1 := H4.unfrozen 2 rfl 1; have v2 := H4.unfrozen 2 rfl 2))
               go_ret
               exact ⟨_, rfl, shutR (s := ⟨s.ts, key, true, s.l⟩) (((H4.box_set 2 rfl rfl 2 (.bool true)).box_set 2 rfl rfl 1 (.string key)).keep [0, 1, 2, 3])⟩)
          · rcases HW.out with ha | ⟨ha, hb⟩
            all_goals
              (rw [ha] at z2
               go_enter Try.func14, Try.ntmps14
               go_wp2_with (first | (go_at_call 39; refine (cressetref03_Key.calls key _ _ hkey).mono ?_; rintro e w' ⟨rfl, ⟨nd, rfl⟩⟩) | (go_at_call 40; refine (cressetref15_Check.calls k _ _ _ _ _ ((H.drewN _).reads 1 rfl) hc hk).mono ?_; rintro e w1 ⟨rfl, hb⟩; have H1 := (H.drewN _).same hb; clear hb; have y0 : w1.cell? ⟨b, 0, none⟩ = some (.int .i64 s.ts) := H1.cell 2 rfl 0 rfl) | (go_at_call 41; refine (cressetref15_At.calls k _ _ l s.ts r1 r2 _ _ _ (H1.reads 1 rfl) hc hk2).mono ?_; rintro e w2 ⟨rfl, hb⟩; have H2 := H1.same hb; clear hb) | ((with_reducible refine gate_dst (N := 9) rfl ?_); refine Hp.at_box H2 3 ?hg (N := 9) ?hd (cs := #[.int .i64 0, .string ⟨#[]⟩, .bool false]) (t := 87) ?hr ?_; (case hd => rfl); (case hg => rfl); (case hr => first | (go_simp; done) | (go_simp; rfl)); intro g w3 H3; have x0 : w3.cell? ⟨g, 0, none⟩ = some (.int .i64 0) := H3.cell 4 rfl 0 rfl; have x1 : w3.cell? ⟨g, 1, none⟩ = some (.string ⟨#[]⟩) := H3.cell 4 rfl 1 rfl; have x2 : w3.cell? ⟨g, 2, none⟩ = some (.bool false) := H3.cell 4 rfl 2 rfl; have u0 := H3.unfrozen 4 rfl 0; have u1 := H3.unfrozen 4 rfl 1; have u2 := H3.unfrozen 4 rfl 2) | ((with_reducible refine gate_store (t := 87) (p := 9) rfl ?_); go_loud (refine Hp.at_sets H3 4 rfl rfl ?hg (T := 87) (z := 9) (x := ?vo) ?ho ?hn 0 [.int .i64 r1, .string r2, .bool true] ?hr (cs' := #[.int .i64 r1, .string r2, .bool true]) ?hc ?_); (case ho => rfl); (case hg => rfl); (case hn => rfl); (case hr => first | (go_simp; done) | (go_simp; rfl)); (case hc => rfl); clear x0 x1 x2 u0 u1 u2; intro w4 H4; have x0 := H4.cell 4 rfl 0 (v := .int .i64 r1) rfl; have x1 := H4.cell 4 rfl 1 (v := .string r2) rfl; have x2 := H4.cell 4 rfl 2 (v := .bool true) rfl; have t2 := H4.cell 2 rfl 2 (v := .bool s.any) rfl; have t3 := H4.cell 2 rfl 3 (v := .slice Av s.l.length cv) rfl; have t1 := H4.cell 2 rfl 1 (v := .string s.last) rfl; have v1 := H4.unfrozen 2 rfl 1; have v2 := H4.unfrozen 2 rfl 2))
               go_ret
               exact ⟨_, rfl, shutR (s := ⟨s.ts, key, true, s.l⟩) (((H4.box_set 2 rfl rfl 2 (.bool true)).box_set 2 rfl rfl 1 (.string key)).keep [0, 1, 2, 3])⟩)
      · rw [if_pos q3] at h
        obtain ⟨rfl, rfl⟩ := Prod.mk.inj h
        clear h
        have q3b : (e2 == 0) = false := beq_eq_false_iff_ne.mpr q3
        have q3c : (e2 != 0) = true := bne_iff_ne.mpr q3
        have HW : Aside0 (s.any = false ∨ (s.any = true ∧ (Op.bytesLess key.toList s.last.toList || key.toList == s.last.toList) = false)) := ⟨by unfold kle at q2; cases hh : s.any <;> cases hb : (Op.bytesLess key.toList s.last.toList || key.toList == s.last.toList) <;> simp_all⟩
        clear q2
        rcases HW.out with ha | ⟨ha, hb⟩
        all_goals
          (rw [ha] at z2
           go_enter Try.func14, Try.ntmps14
           go_wp2_with (first | (go_at_call 39; refine (cressetref03_Key.calls key _ _ hkey).mono ?_; rintro e w' ⟨rfl, ⟨nd, rfl⟩⟩) | (go_at_call 40; refine (cressetref15_Check.calls k _ _ _ _ _ ((H.drewN _).reads 1 rfl) hc hk).mono ?_; rintro e w1 ⟨rfl, hb⟩; have H1 := (H.drewN _).same hb; clear hb; have y0 : w1.cell? ⟨b, 0, none⟩ = some (.int .i64 s.ts) := H1.cell 2 rfl 0 rfl))
           go_ret
           exact ⟨_, rfl, shutR H1⟩)
  · rw [if_pos q1] at h
    obtain ⟨rfl, rfl⟩ := Prod.mk.inj h
    clear h
    have q1b : (e1 == 0) = false := beq_eq_false_iff_ne.mpr q1
    have q1c : (e1 != 0) = true := bne_iff_ne.mpr q1
    go_enter Try.func14, Try.ntmps14
    go_wp2_with (go_at_call 39; refine (cressetref03_Key.calls key _ _ hkey).mono ?_; rintro e w' ⟨rfl, ⟨nd, rfl⟩⟩)
    go_ret
    exact ⟨_, rfl, shutR (H.drewN _)⟩
end Go.Proofs.Ytkflgkmblebdmaa.Im

/-
Of the row ValidDoes: printed walks and plain laws, merged (wip/claim2.py).
-/
import Derived.Test.YtgbmlkoblcfceaaQValidDoes3
import Derived.Test.YtgbmlkoblcfceaaQValidDoes8
import Derived.Test.YtgbmlkoblcfceaaQValidDoes12
import Derived.Test.YtgbmlkoblcfceaaQValidDoes19
set_option linter.unusedVariables false
set_option linter.unusedSimpArgs false
namespace Go.Proofs.Ytgbmlkoblcfceaa.Vd
open Go.RowKit Go.Proofs.Ytgbmlkoblcfceaa.B Go.Proofs.YtgbmlkoblcfceaaW.PrintWords Go.Proofs.YtgbmlkoblcfceaaW.PrintLast Go.Proofs.YtgbmlkoblcfceaaW.PrintMore Go.Proofs.YtgbmlkoblcfceaaW.Mine Go.Proofs.YtgbmlkoblcfceaaW.Hp
theorem isV_see {b : Nat} {s : V} {w : World} {S : Nat → Prop} (h : (isV b s).P w S) : ∃ A c, vb b (.slice A s.l.length c) s.fl s.la w ∧ Kd.C k67 w A s.l.length s.l ∧ s.l.length ≤ c := by
  obtain ⟨v, S1, S2, _, _, hb, hr⟩ := h
  obtain ⟨A, c, rfl, hl, hC⟩ := Kd.R_reads hr
  exact ⟨A, c, hb.1, hC, hl⟩
section
variable {w0 w : World} {L : List (Nat × Asn)} {i : Nat} {K : Option Addr} {cK : Nat} {rk : List ByteArray} {R : Option Addr} {cR : Nat} {rr : List S65} {M : Option Addr} {cM : Nat} {mine : List ByteArray}
theorem check_hp {b : Nat} {s : V} (H : Hp w0 w L) (p : Nat) (hi : L[p]? = some (i, isV b s)) (snap lv : Int) (h : Rd w K cK rk R cR rr M cM mine) :
    Calls Try.prog 12 #[.pointer (some ⟨b, 0, none⟩), .int .i64 snap, .int .i64 lv, .agg #[.slice K rk.length cK, .slice R rr.length cR], .slice M mine.length cM] w fun e w' => e = .returned (.int .i64 (chk s.fl s.l snap lv rk rr mine)) ∧ Hp w0 w' L := by
  obtain ⟨A, c, hv, hC, hc⟩ := H.fact p hi (fun S h => isV_see h)
  refine (check_calls b A c s.l s.fl s.la snap lv hv hC hc h).mono ?_
  rintro e w' ⟨rfl, hb⟩
  exact ⟨rfl, H.same hb⟩
theorem newV (H : Hp w0 w L) (m : Nat) (hn : noLab m L = true) : Calls Try.prog 13 #[] w fun e w' => ∃ b, e = .returned (.pointer (some ⟨b, 0, none⟩)) ∧ Hp w0 w' (L ++ [(m, isV b ⟨[], 0, 0⟩)]) := by
  refine (new_calls w).mono ?_
  rintro e w' ⟨rfl, rfl⟩
  refine ⟨_, rfl, H.new m (al _ _) ?_⟩
  refine ⟨.slice none 0 0, fun k => k = w.heap.size, fun _ => False, fun _ _ h => h, fun k hk _ => ?_, ⟨blk_new w _, rfl⟩, Kd.R_nil _ _ _ _ _⟩
  rcases hk with rfl | hk
  · exact Nat.le_refl _
  · exact hk.elim
end
theorem mem_cgo {x : ByteArray} : ∀ {l : List ByteArray} {p : ByteArray}, x ∈ l → ∃ y, (y = p ∨ y ∈ Cp.cgo p l) ∧ y.toList = x.toList
  | [], p, h => by cases h
  | y :: l, p, h => by
    simp only [Cp.cgo]
    rcases List.mem_cons.1 h with rfl | h
    · by_cases e : p.toList = x.toList
      · exact ⟨p, .inl rfl, e⟩
      · rw [if_neg e]
        exact ⟨x, .inr (List.mem_cons_self ..), rfl⟩
    · obtain ⟨z, hz, e2⟩ := mem_cgo (p := y) h
      by_cases e : p.toList = y.toList
      · rw [if_pos e]
        rcases hz with rfl | hz
        · exact ⟨p, .inl rfl, e.trans e2⟩
        · exact ⟨z, .inr hz, e2⟩
      · rw [if_neg e]
        rcases hz with rfl | hz
        · exact ⟨z, .inr (List.mem_cons_self ..), e2⟩
        · exact ⟨z, .inr (List.mem_cons_of_mem _ hz), e2⟩
theorem mem_cpt {x : ByteArray} {l : List ByteArray} (h : x ∈ l) : ∃ y ∈ Cp.cpt l, y.toList = x.toList := by
  cases l with
  | nil => cases h
  | cons p l =>
    rcases List.mem_cons.1 h with rfl | h
    · exact ⟨x, List.mem_cons_self .., rfl⟩
    · obtain ⟨y, hy, e⟩ := mem_cgo (p := p) h
      rcases hy with rfl | hy
      · exact ⟨y, List.mem_cons_self .., e⟩
      · exact ⟨y, List.mem_cons_of_mem _ hy, e⟩
theorem mem_srt {x : ByteArray} {l : List ByteArray} : x ∈ Srt.srt l ↔ x ∈ l := by
  unfold Srt.srt
  simp only [List.mem_map, List.mem_mergeSort]
  constructor
  · rintro ⟨b, ⟨s, hs, rfl⟩, rfl⟩
    exact hs
  · intro h
    exact ⟨x.data.toList, ⟨x, h, rfl⟩, rfl⟩
theorem mem_keysOf {x : ByteArray} {l : List ByteArray} (h : x ∈ l) : ∃ y ∈ keysOf l, y.toList = x.toList := mem_cpt (mem_srt.2 h)
theorem clash_mine {lv : Int} {rk : List ByteArray} {rr : List S65} {mine ks : List ByteArray} {x y : ByteArray} (hx : x ∈ mine) (hy : y ∈ ks) (e : y.toList = x.toList) : clash lv rk rr mine ks = true := by
  unfold clash
  rw [List.any_eq_true]
  refine ⟨y, hy, ?_⟩
  unfold hitB
  rw [show mine.any (eqB y) = true from List.any_eq_true.2 ⟨x, hx, decide_eq_true e⟩, Bool.true_or]
theorem info9b : (Try.prog.info? 9).map (fun i => (i.zero, i.size, i.bytes)) = some (some (.string ⟨#[]⟩), 1, 16) := by kernel_rfl
theorem RdS (w : World) (s : ByteArray) : Kd.C Kd.string (w.alloc (.cells #[.string s] 9)) (some ⟨w.heap.size, 0, none⟩) [s].length [s] := newS w s
set_option maxHeartbeats 8000000 in
set_option maxRecDepth 100000 in
theorem first_bad (w : World) (key : ByteArray) (ts : Int) (A : Option Addr) (n c : Nat) (hb : ts < 0 ∨ 1099511627776 ≤ ts) : Calls Try.prog 4 #[.string key, .int .i64 ts, .slice A n c] w fun e w' => e = .returned (.bool true) ∧ Below w.heap.size w w' := by
  by_cases h1 : ts < 0
  · have d1 : decide (ts < 0) = true := decide_eq_true h1
    clear hb h1
    go_enter Try.func4, Try.ntmps4
    go_wp2_with (first | (go_at_call 13; refine (new_calls _).mono ?_; rintro e w' ⟨rfl, rfl⟩) | (go_at_call 11; refine (live_calls _).mono ?_; rintro e w' ⟨rfl, hb⟩))
    go_ret
    exact ⟨rfl, (al w _).trans (hb.mono (al w _).size)⟩
  · have d1 : decide (ts < 0) = false := decide_eq_false h1
    have d2 : decide (1099511627776 ≤ ts) = true := decide_eq_true (by omega)
    clear hb h1
    go_enter Try.func4, Try.ntmps4
    go_wp2_with (first | (go_at_call 13; refine (new_calls _).mono ?_; rintro e w' ⟨rfl, rfl⟩) | (go_at_call 11; refine (live_calls _).mono ?_; rintro e w' ⟨rfl, hb⟩))
    go_ret
    exact ⟨rfl, (al w _).trans (hb.mono (al w _).size)⟩
theorem check_is {w0 w : World} {L : List (Nat × Asn)} {i : Nat} {K : Option Addr} {cK : Nat} {rk : List ByteArray} {R : Option Addr} {cR : Nat} {rr : List S65} {M : Option Addr} {cM : Nat} {mine : List ByteArray} {b : Nat} {s : V} (H : Hp w0 w L) (p : Nat) (hi : L[p]? = some (i, isV b s)) (snap lv r : Int) (h : Rd w K cK rk R cR rr M cM mine) (e : chk s.fl s.l snap lv rk rr mine = r) :
    Calls Try.prog 12 #[.pointer (some ⟨b, 0, none⟩), .int .i64 snap, .int .i64 lv, .agg #[.slice K rk.length cK, .slice R rr.length cR], .slice M mine.length cM] w fun e w' => e = .returned (.int .i64 r) ∧ Hp w0 w' L := by
  rw [← e]
  exact check_hp H p hi snap lv h
theorem chk_a (ts : Int) (h : 0 ≤ ts) (key : ByteArray) : chk 0 [] ts 1 [] [] [key] = 0 := by
  unfold chk
  rw [if_neg (by omega), if_neg (by omega)]
  rfl
theorem chk_b (ts : Int) (h : 0 ≤ ts) (key : ByteArray) (more : List ByteArray) : chk 0 [⟨ts + 1, keysOf (key :: more)⟩] ts 1 [] [] [key] = 230 := by
  unfold chk
  rw [if_neg (by omega), if_neg (by omega)]
  have h1 : ckl ts 1 [] [] [key] [⟨ts + 1, keysOf (key :: more)⟩] 1 = true := by
    obtain ⟨y, hy, e⟩ := mem_keysOf (x := key) (l := key :: more) (List.mem_cons_self ..)
    show (if (rd_T67 [⟨ts + 1, keysOf (key :: more)⟩] (0 : Nat)).f0 ≤ ts then false else if clash 1 [] [] [key] (rd_T67 [⟨ts + 1, keysOf (key :: more)⟩] (0 : Nat)).f1 = true then true else false) = true
    rw [show rd_T67 [⟨ts + 1, keysOf (key :: more)⟩] ((0 : Nat) : Int) = ⟨ts + 1, keysOf (key :: more)⟩ from rfl, if_neg (by show ¬ ts + 1 ≤ ts; omega), if_pos (clash_mine (List.mem_singleton.2 rfl) hy e)]
  show c230 (ckl ts 1 [] [] [key] [⟨ts + 1, keysOf (key :: more)⟩] 1) = 230
  rw [h1]
  rfl
theorem chk_c (ts : Int) (h : 0 ≤ ts) (key : ByteArray) (ks : List ByteArray) : chk 0 [⟨ts + 1, ks⟩] (ts + 1) 2 [key] [] [key] = 0 := by
  unfold chk
  rw [if_neg (by omega), if_neg (by omega)]
  have h1 : ckl (ts + 1) 2 [key] [] [key] [⟨ts + 1, ks⟩] 1 = false := by
    show (if (rd_T67 [⟨ts + 1, ks⟩] (0 : Nat)).f0 ≤ ts + 1 then false else if clash 2 [key] [] [key] (rd_T67 [⟨ts + 1, ks⟩] (0 : Nat)).f1 = true then true else false) = false
    rw [show rd_T67 [⟨ts + 1, ks⟩] ((0 : Nat) : Int) = ⟨ts + 1, ks⟩ from rfl, if_pos (Int.le_refl _)]
  show c230 (ckl (ts + 1) 2 [key] [] [key] [⟨ts + 1, ks⟩] 1) = 0
  rw [h1]
  rfl
set_option maxHeartbeats 8000000 in
set_option maxRecDepth 100000 in
theorem first_go (w : World) (key : ByteArray) (ts : Int) (A : Option Addr) (c : Nat) (more : List ByteArray) (hC : Kd.C Kd.string w A more.length more) (hc : more.length ≤ c) (h0 : 0 ≤ ts) (h1 : ts < 1099511627776) (hl : more.length * 16 ≤ 140737488351232) :
    Calls Try.prog 4 #[.string key, .int .i64 ts, .slice A more.length c] w fun e w' => e = .returned (.bool true) ∧ Below w.heap.size w w' := by
  have HS := Aside0.mk ((Hp.start w).came Kd.heap_string 0 rfl hC)
  have d1 : decide (ts < 0) = false := decide_eq_false (by omega)
  have d2 : decide (1099511627776 ≤ ts) = false := decide_eq_false (by omega)
  have HL := Aside0.mk hl
  have HA := Aside0.mk (chk_a ts h0 key)
  have HB := Aside0.mk (chk_b ts h0 key more)
  have HC := Aside0.mk (chk_c ts h0 key (keysOf (key :: more)))
  have HD : Aside0 (addV ⟨[], 0, 0⟩ (ts + 1) ([key] ++ more) = (0, ⟨[⟨ts + 1, keysOf (key :: more)⟩], 0, ts + 1⟩)) := ⟨by
    unfold addV
    rw [if_neg (by show ¬ (ts + 1 ≤ 0 ∨ ts + 1 ≤ 0 ∨ 1099511627776 < ts + 1); omega), if_neg (by show ¬ 4096 ≤ 0; omega)]
    rfl⟩
  clear hl hC
  go_enter Try.func4, Try.ntmps4
  go_wp2_with (first
    | (go_at_call 13; refine (newV HS.out 1 rfl).mono ?_; rintro e w1 ⟨b, rfl, H1⟩)
    | (go_at_call 11; refine (live_calls _).mono ?_; rintro e w2 ⟨rfl, hb2⟩; have H2 := H1.same hb2; clear hb2 H1)
    | (go_at_call 12; refine (check_is (H2.same (al0 w2 _)) 2 rfl ts 1 0 (K := none) (cK := 0) (rk := []) (R := none) (cR := 0) (rr := []) (M := some ⟨w2.heap.size, 0, none⟩) (cM := 1) (mine := [key]) ⟨Kd.C_nil _ _, Nat.le_refl _, Kd.C_nil _ _, Nat.le_refl _, RdS w2 key, Nat.le_refl _⟩ HA.out).mono ?_; rintro e w3 ⟨rfl, H3⟩; clear H2)
    | ((with_reducible refine gate_dst (N := 40) rfl ?_); (try (refine gate_guard (by rfl) ?_; dsimp only)); refine Hp.at_lit Kd.string H3 5 9 ?hg (N := 40) ?hd (xs := [key]) (inner := [.string key]) ?hr ?hp (by simp) ?_; (case hd => rfl); (case hg => rfl); (case hr => first | (go_simp; done) | (go_simp; rfl)); (case hp => exact fun _ => Kd.reps_scalar (enc := Value.string) [key]); intro A4 c4 w4 hc4 H4)
    | ((with_reducible refine gate_builtin (b := .append) (xs := #[.tmp 40, .tmp 41]) rfl ?_); (try (refine gate_guard (by rfl) ?_; dsimp only)); (try at_builtin); refine Hp.at_append_rows Kd.string H4 3 rfl (.tmp 40) (.tmp 41) 23 9 (.string ⟨#[]⟩) 16 rfl Try.underlying23 info9b rfl (by decide) (by omega) _ [key] more A more.length c rfl rfl ?hs ?hx (H4.reads 1 rfl) (fun _ _ h => h) (by have := HL.out; show (1 + more.length) * 16 ≤ _; omega) ?_; (case hs => rfl); (case hx => rfl); intro v5 w5 H5; obtain ⟨A5, c5, rfl⟩ := H5.fact 3 rfl (fun _ h => Kd.R_slice h); have hcc5 := (H5.row_C 3 rfl).2.1)
    | (go_at_call 14; refine (H5.call (add_tr b ⟨[], 0, 0⟩ (ts + 1) A5 c5 ([key] ++ more) hcc5 (by have := HL.out; simp; omega)) 2 rfl rfl (fun lab h => (Asn.rd Kd.string A5 _ ([key] ++ more)).mono (row_rd (h.get (p := 3) rfl)) (fun k _ hk => by omega))).mono ?_; rintro e w6 ⟨r6, rfl, H6⟩; rw [HD.out] at H6; obtain rfl := H6.fact 2 rfl (fun _ h => h.1); have H7 := (H6.imp (A' := isV b ⟨[⟨ts + 1, keysOf (key :: more)⟩], 0, ts + 1⟩) 2 rfl (fun _ h => h.2)).keep [0, 2])
    | (go_at_call 12; refine (check_is (H7.same (al0 w6 _)) 1 rfl ts 1 230 (K := none) (cK := 0) (rk := []) (R := none) (cR := 0) (rr := []) (M := some ⟨w6.heap.size, 0, none⟩) (cM := 1) (mine := [key]) ⟨Kd.C_nil _ _, Nat.le_refl _, Kd.C_nil _ _, Nat.le_refl _, RdS w6 key, Nat.le_refl _⟩ HB.out).mono ?_; rintro e w7 ⟨rfl, H8⟩; clear H7)
    | (go_at_call 12; refine (check_is (s := ⟨[⟨ts + 1, keysOf (key :: more)⟩], 0, ts + 1⟩) ((H8.same (al0 w7 (.cells #[.string key] 9))).same (al0 _ (.cells #[.string key] 9))) 1 rfl (ts + 1) 2 0 (K := some ⟨w7.heap.size, 0, none⟩) (cK := 1) (rk := [key]) (R := none) (cR := 0) (rr := []) (M := some ⟨w7.heap.size + 1, 0, none⟩) (cM := 1) (mine := [key]) ⟨Kd.C_below (RdS w7 key) (al0 _ _), Nat.le_refl _, Kd.C_nil _ _, Nat.le_refl _, by have := RdS (w7.alloc (.cells #[.string key] 9)) key; rwa [World.size_alloc] at this, Nat.le_refl _⟩ HC.out).mono ?_; rintro e w9 ⟨rfl, H9⟩))
  go_ret
  exact ⟨rfl, H9.below 0 rfl (fun _ h => h)⟩
theorem ValidFirst : cressetlaw23_ValidFirst.Pure := by
  intro key ts A c more w hC hc _ hts hm
  by_cases h : ts < 0 ∨ 1099511627776 ≤ ts
  · exact first_bad w key ts A more.length c h
  · exact first_go w key ts A c more hC hc (by omega) (by omega) hm.2.1
end Go.Proofs.Ytgbmlkoblcfceaa.Vd

set_option linter.unusedVariables false
set_option linter.unusedSimpArgs false
namespace Go.Proofs.Ytgbmlkoblcfceaa.Vd
open Go.RowKit Go.Proofs.Ytgbmlkoblcfceaa.B Go.Proofs.YtgbmlkoblcfceaaW.PrintWords Go.Proofs.YtgbmlkoblcfceaaW.PrintLast Go.Proofs.YtgbmlkoblcfceaaW.PrintMore Go.Proofs.YtgbmlkoblcfceaaW.Mine Go.Proofs.YtgbmlkoblcfceaaW.Hp
theorem reads28 {w0 w : World} {L : List (Nat × Asn)} {j : Nat} {A : Option Addr} {n : Nat} {xs : List S28} (H : Hp w0 w L) (p : Nat) (hi : L[p]? = some (j, Asn.rd k28 A n xs)) (i : Int) (h0 : 0 ≤ i) (h1 : i < n) :
    ∃ ad A3 c3 A4 c4 A5 c5, A = some ad ∧ w.cell? (ad.add (i.toNat * 6)) = some (.int .i64 (rd_T28 xs i).f0) ∧ w.cell? ⟨(ad.add (i.toNat * 6)).block, (ad.add (i.toNat * 6)).off + 1, none⟩ = some (.int .i64 (rd_T28 xs i).f1) ∧ w.cell? ⟨(ad.add (i.toNat * 6)).block, (ad.add (i.toNat * 6)).off + 2, none⟩ = some (.int .i64 (rd_T28 xs i).f2) ∧
      w.cell? ⟨(ad.add (i.toNat * 6)).block, (ad.add (i.toNat * 6)).off + 3, none⟩ = some (.slice A3 (rd_T28 xs i).f3.f0.length c3) ∧ w.cell? ⟨(ad.add (i.toNat * 6)).block, (ad.add (i.toNat * 6)).off + 4, none⟩ = some (.slice A4 (rd_T28 xs i).f3.f1.length c4) ∧ w.cell? ⟨(ad.add (i.toNat * 6)).block, (ad.add (i.toNat * 6)).off + 5, none⟩ = some (.slice A5 (rd_T28 xs i).f4.length c5) ∧
      (rd_T28 xs i).f3.f0.length ≤ c3 ∧ (rd_T28 xs i).f3.f1.length ≤ c4 ∧ (rd_T28 xs i).f4.length ≤ c5 ∧
      Hp w0 w (L ++ [(j, Asn.rd Kd.string A3 (rd_T28 xs i).f3.f0.length (rd_T28 xs i).f3.f0), (j, Asn.rd k65 A4 (rd_T28 xs i).f3.f1.length (rd_T28 xs i).f3.f1), (j, Asn.rd Kd.string A5 (rd_T28 xs i).f4.length (rd_T28 xs i).f4)]) := by
  obtain ⟨lab, hall⟩ := H.all
  obtain ⟨ad, c, rfl, _, hK, hc0, _⟩ := Kd.F_get (hall.get hi) z28 i h0 h1
  obtain ⟨A3, c3, A4, c4, A5, c5, rfl, l3, g3, l4, g4, l5, g5⟩ := k28_openF hK
  have hc : ∀ j u, _ → w.cell? (ad.add (i.toNat * 6 + j)) = some u := hc0
  refine ⟨ad, A3, c3, A4, c4, A5, c5, rfl, hc 0 _ rfl, by rw [← add_field _ _ 1 (by omega)]; exact hc 1 _ rfl, by rw [← add_field _ _ 2 (by omega)]; exact hc 2 _ rfl, by rw [← add_field _ _ 3 (by omega)]; exact hc 3 _ rfl, by rw [← add_field _ _ 4 (by omega)]; exact hc 4 _ rfl, by rw [← add_field _ _ 5 (by omega)]; exact hc 5 _ rfl, l3, l4, l5, H.os, H.tape, H.output, H.size, lab, ?_⟩
  have := ((hall.snoc (A := Asn.rd Kd.string A3 (rd_T28 xs i).f3.f0.length (rd_T28 xs i).f3.f0) g3).snoc (A := Asn.rd k65 A4 (rd_T28 xs i).f3.f1.length (rd_T28 xs i).f3.f1) g4).snoc (A := Asn.rd Kd.string A5 (rd_T28 xs i).f4.length (rd_T28 xs i).f4) g5
  simpa using this
def mk1 (s : V) (x : S28) : V := if x.f0 = 1 then (addV s x.f1 x.f4).2 else s
def madeV (ops : List S28) : V := ops.foldl mk1 ⟨[], 0, 0⟩
theorem madeV_snoc {ops : List S28} {i : Nat} (h : i < ops.length) : madeV (ops.take (i + 1)) = mk1 (madeV (ops.take i)) (rd_T28 ops (i : Int)) := by
  unfold madeV
  rw [List.take_succ_eq_append_getElem h, List.foldl_append]
  unfold rd_T28
  rw [Int.toNat_natCast, List.getD_eq_getElem?_getD, List.getElem?_eq_getElem h]
  rfl
set_option maxHeartbeats 8000000 in
set_option maxRecDepth 100000 in
theorem made_tr (A : Option Addr) (c : Nat) (ops : List S28) (hc : ops.length ≤ c) (hs : ∀ x ∈ ops, x.f4.length < 8796093022208) :
    Tr Try.prog 10 #[.slice A ops.length c] (Asn.rd k28 A ops.length ops) Asn.top (fun r => Asn.ex fun b : Nat => Asn.and (Asn.lift (r = .pointer (some ⟨b, 0, none⟩))) (isV b (madeV ops))) := by
  refine Tr.intro fun w U H0 => ?_
  have H := H0.keep [0, 1]
  have hmx : ops.length ≤ 9223372036854775807 := (H0.reads 1 rfl).2.1
  have HS := Aside0.mk hs
  clear H0 hs
  go_enter Try.func10, Try.ntmps10
  go_wp2_with (go_at_call 13; refine (newV H 1 rfl).mono ?_; rintro e w1 ⟨b, rfl, H1⟩; clear H)
  go_loopg [9] ops.length (fun gk v9 wr => ∃ i : Nat, v9 = .int .i64 i ∧ i ≤ ops.length ∧ ops.length - i ≤ gk ∧ Aside0 (Hp w wr [(0, Asn.old w U), (0, Asn.rd k28 A ops.length ops), (1, isV b (madeV (ops.take i)))]))
  case atStart => exact ⟨0, rfl, Nat.zero_le _, by omega, ⟨H1⟩⟩
  case round =>
    clear H1
    obtain ⟨i, rfl, hil, hgk, HO⟩ := hrel
    by_cases hlt : i < ops.length
    · have hltz : (i : Int) < (ops.length : Int) := by omega
      obtain ⟨ad, A3, c3, A4, c4, A5, c5, e, x0, x1, x2, x3, x4, x5, l3, l4, l5, HQ⟩ := reads28 HO.out 1 rfl (i : Int) (by omega) hltz
      cases e
      have HM := Aside0.mk (madeV_snoc hlt)
      have HB : Aside0 ((rd_T28 ops (i : Int)).f4.length < 8796093022208) := ⟨HS.out _ (Sl.getD_in _ (by simpa using hlt))⟩
      have HI := Aside0.mk HQ
      have HGK := Aside0.mk hgk
      clear HO HQ hgk
      rw [Int.toNat_natCast] at x0 x1 x2 x3 x4 x5
      generalize rd_T28 ops (i : Int) = x at x0 x1 x2 x3 x4 x5 l3 l4 l5 HM HB HI
      go_upto_region 5 with (first
        | ((with_reducible refine gate_dst (N := 5) rfl ?_); refine Hp.at_box HI.out 7 ?hg (N := 5) ?hd (cs := #[.int .i64 0, .int .i64 0, .int .i64 0, .slice none 0 0, .slice none 0 0, .slice none 0 0]) (t := 28) ?hr ?_; (case hd => rfl); (case hg => rfl); (case hr => first | (go_simp; done) | (go_simp; rfl)); intro g w3 H3; clear HI x0 x1 x2 x3 x4 x5; have y0 := H3.cell 6 rfl 0 (v := .int .i64 0) rfl; have y1 := H3.cell 6 rfl 1 (v := .int .i64 0) rfl; have y2 := H3.cell 6 rfl 2 (v := .int .i64 0) rfl; have y3 := H3.cell 6 rfl 3 (v := .slice none 0 0) rfl; have y4 := H3.cell 6 rfl 4 (v := .slice none 0 0) rfl; have y5 := H3.cell 6 rfl 5 (v := .slice none 0 0) rfl; have u0 := H3.unfrozen 6 rfl 0; have u1 := H3.unfrozen 6 rfl 1; have u2 := H3.unfrozen 6 rfl 2; have u3 := H3.unfrozen 6 rfl 3; have u4 := H3.unfrozen 6 rfl 4; have u5 := H3.unfrozen 6 rfl 5)
        | ((with_reducible refine gate_store (t := 28) (p := 5) rfl ?_); refine Hp.at_sets H3 6 rfl rfl ?hg (T := 28) (z := 5) (x := ?vo) ?ho ?hn 0 [.int .i64 x.f0, .int .i64 x.f1, .int .i64 x.f2, .slice A3 x.f3.f0.length c3, .slice A4 x.f3.f1.length c4, .slice A5 x.f4.length c5] ?hr (cs' := #[.int .i64 x.f0, .int .i64 x.f1, .int .i64 x.f2, .slice A3 x.f3.f0.length c3, .slice A4 x.f3.f1.length c4, .slice A5 x.f4.length c5]) ?hc ?_; (case ho => rfl); (case hg => rfl); (case hn => rfl); (case hr => first | (go_simp; done) | (go_simp; rfl)); (case hc => rfl); clear y0 y1 y2 y3 y4 y5 u0 u1 u2 u3 u4 u5; intro w4 H4))
      have y0 := H4.cell 6 rfl 0 (v := .int .i64 x.f0) rfl
      have y1 := H4.cell 6 rfl 1 (v := .int .i64 x.f1) rfl
      have y5 := H4.cell 6 rfl 5 (v := .slice A5 x.f4.length c5) rfl
      by_cases q : x.f0 = 1
      · have q1 : (x.f0 == 1) = true := beq_iff_eq.mpr q
        have HM2 : Aside0 (madeV (ops.take (i + 1)) = (addV (madeV (ops.take i)) x.f1 x.f4).2) := ⟨by rw [HM.out]; unfold mk1; rw [if_pos q]⟩
        clear q HM
        go_wp2_with (go_at_call 14; refine (H4.call (add_tr b (madeV (ops.take i)) x.f1 A5 c5 x.f4 l5 HB.out) 2 rfl rfl (fun lab h => (Asn.rd Kd.string A5 x.f4.length x.f4).mono (h.get (p := 5) rfl) (fun k _ hk => by omega))).mono ?_; rintro e w6 ⟨r6, rfl, H6⟩; have H7 := (H6.imp (A' := isV b (madeV (ops.take (i + 1)))) 2 rfl (fun _ h => by rw [HM2.out]; exact h.2)).keep [0, 1, 2]; clear H6)
        go_roundg (ops.length - (i + 1))
        case measure => have := HGK.out; omega
        case rel => exact ⟨i + 1, by go_num, by omega, by omega, ⟨H7⟩⟩
      · have q1 : (x.f0 == 1) = false := beq_eq_false_iff_ne.mpr q
        have HM2 : Aside0 (madeV (ops.take (i + 1)) = madeV (ops.take i)) := ⟨by rw [HM.out]; unfold mk1; rw [if_neg q]⟩
        clear q HM
        have H7 := (H4.imp (A' := isV b (madeV (ops.take (i + 1)))) 2 rfl (fun _ h => by rw [HM2.out]; exact h)).keep [0, 1, 2]
        clear H4
        go_wp2
        go_roundg (ops.length - (i + 1))
        case measure => have := HGK.out; omega
        case rel => exact ⟨i + 1, by go_num, by omega, by omega, ⟨H7⟩⟩
    · obtain rfl : i = ops.length := by omega
      have hltz : ¬ (ops.length : Int) < (ops.length : Int) := by omega
      go_wp2
      go_ret
      have h1 := HO.out
      rw [List.take_length] at h1
      exact ⟨_, rfl, (h1.imp (A' := Asn.ex fun b' : Nat => Asn.and (Asn.lift (_ = Value.pointer (some ⟨b', 0, none⟩))) (isV b' (madeV ops))) 2 rfl (fun S h => ⟨b, rfl, h⟩)).keep [0, 2]⟩
end Go.Proofs.Ytgbmlkoblcfceaa.Vd

set_option linter.unusedVariables false
set_option linter.unusedSimpArgs false
namespace Go.Proofs.Ytgbmlkoblcfceaa.Vd
open Go.RowKit Go.Proofs.Ytgbmlkoblcfceaa.B Go.Proofs.YtgbmlkoblcfceaaW.PrintWords Go.Proofs.YtgbmlkoblcfceaaW.PrintLast Go.Proofs.YtgbmlkoblcfceaaW.PrintMore Go.Proofs.YtgbmlkoblcfceaaW.Mine Go.Proofs.YtgbmlkoblcfceaaW.Hp
set_option maxHeartbeats 2000000 in
set_option maxRecDepth 100000 in
theorem clone67 (okp : Nat → Prop) (A0 : Option Addr) (c0 : Nat) (l0 : List S67) (w : World) (hr0 : ReadsRow (k67.M w 0 okp) k67.sz w A0 l0.length l0) (hok : ∀ k, okp k → k < w.heap.size) (hl : l0.length < 4398046511104) :
    Calls Try.prog 38 #[.slice A0 l0.length c0] w fun e w' => ∃ v0_ : Value, e = .returned v0_ ∧ k67.R 67 w' 0 (fun k => okp k ∨ w.heap.size ≤ k) v0_ l0 ∧ Below w.heap.size w w' := by
  have HR0 := Aside0.mk hr0
  have LM1 := Aside0.mk hl
  have HK := Aside0.mk hok
  clear hr0 hl hok
  have HB := Aside0.mk (Below.refl w.heap.size w)
  have hnil := fun (a : Option Addr) (m c : Nat) (W : World) => Go.Lib.run_eql_slice_nil (P := Try.prog) W 59 67 a m c 0 0 Try.underlying59
  cases A0 with
  | none =>
    have h0 : l0 = [] := by
      rcases Nat.eq_zero_or_pos l0.length with h0 | h0
      · exact List.eq_nil_of_length_eq_zero h0
      · obtain ⟨ad, e1, _⟩ := HR0.out.2.2 h0
        cases e1
    subst h0
    go_enter Try.func38, Try.ntmps38
    go_wp2
    go_ret
    exact ⟨_, rfl, Kd.R_nil _ _ _ _ _, HB.out⟩
  | some ad =>
    go_enter Try.func38, Try.ntmps38
    go_wp2_with (first
      | ((with_reducible refine gate_dst (N := 5) rfl ?_); (try (refine gate_guard (by rfl) ?_; dsimp only)); refine Kd.R_lit k67 (w0 := w) 0 67 ?hg (N := 5) ?hd (xs := ([] : List S67)) (inner := []) (ok := fun k => okp k ∨ w.heap.size ≤ k) (okp := fun _ => False) ?hr ?hp (fun _ hk => hk.elim) ?hz ((Hp.start w).old0) (Nat.zero_le _) (by simp) ?_; (case hd => rfl); (case hg => rfl); (case hr => first | (go_simp; done) | (go_simp; rfl)); (case hp => exact (Reps.none _ _)); (case hz => exact .inr (Nat.le_refl _)); intro v1 w1 ho1 hb hg_ hnew_; have n0_ := Aside0.mk ho1; have n1_ := Aside0.mk ((Below.refl w.heap.size w).grown hg_ (Nat.le_refl _) (fun k hk => by cases hk)); have n2_ := Aside0.mk (show ∀ k, v1.ownBlock = some k → w.heap.size ≤ k from by obtain ⟨b, e1, e2⟩ := hnew_; intro k hk; rw [e1] at hk; injection hk with hk; omega); clear ho1 hb hg_ hnew_)
      | ((with_reducible refine gate_builtin (b := .append) (xs := #[.tmp 5, .tmp 6]) rfl ?_); at_builtin; refine Kd.R_append_rows k67 (w0 := w1) 0 rfl (.tmp 5) (.tmp 6) 59 67 (.agg #[.int .i64 0, .slice none 0 0]) 32 rfl Try.underlying59 info67b rfl (by decide) (by omega) v1 [] l0 (some ad) l0.length c0 (fun k => okp k ∨ w.heap.size ≤ k) okp rfl rfl n0_.out (HR0.out.imp_ n1_.out (fun _ _ hp => k67.M_move (fun k hk => n1_.out.block k (HK.out k hk)) hp)) (fun _ _ h => h) (fun k hk => ⟨.inl hk, fun he => by have h1 := n2_.out k he.symm; have h2 := HK.out k hk; omega⟩) (fun k hk => .inr (Nat.le_trans n1_.out.size hk)) ((Hp.start w1).old0) (Nat.zero_le _) (by have := LM1.out; simp only [List.length_nil]; omega) ?_; intro v2 w2 ho hb hg hat; rw [List.nil_append] at ho; have n3_ := Aside0.mk ho; have n4_ := Aside0.mk (n1_.out.grown hg n1_.out.size n2_.out); clear ho hb hg hat))
    go_ret
    exact ⟨_, by first | rfl | (simp; done), n3_.out, n4_.out⟩
def fgn (ts : Int) (l : List S67) : Nat := (l.takeWhile fun x => decide (x.f0 ≤ ts)).length
def forgetV (s : V) (ts : Int) : Int × V := if ts ≤ s.fl then (0, s) else ((fgn ts s.l : Int), ⟨s.l.drop (fgn ts s.l), ts, s.la⟩)
theorem fgn_at {ts : Int} {l : List S67} {k : Nat} (hk : k ≤ l.length) (h1 : ∀ j : Nat, j < k → (rd_T67 l (j : Int)).f0 ≤ ts) (h2 : k = l.length ∨ ¬ (rd_T67 l (k : Int)).f0 ≤ ts) : fgn ts l = k := by
  unfold fgn
  have e1 : ∀ j : Nat, (h : j < l.length) → rd_T67 l (j : Int) = l[j] := fun j h => by
    unfold rd_T67
    rw [Int.toNat_natCast, List.getD_eq_getElem?_getD, List.getElem?_eq_getElem h]
    rfl
  have e2 : l = l.take k ++ l.drop k := (List.take_append_drop k l).symm
  rw [e2, List.takeWhile_append_of_pos (by
    intro x hx
    obtain ⟨j, hj, rfl⟩ := List.mem_iff_getElem.1 hx
    rw [List.length_take] at hj
    have := h1 j (by omega)
    rw [e1 j (by omega)] at this
    rw [List.getElem_take]
    exact decide_eq_true this)]
  have e3 : (l.drop k).takeWhile (fun x => decide (x.f0 ≤ ts)) = [] := by
    rcases h2 with rfl | h2
    · rw [List.drop_of_length_le (Nat.le_refl _)]
      rfl
    · by_cases hlt : k < l.length
      · rw [List.drop_eq_getElem_cons hlt, List.takeWhile_cons_of_neg]
        rw [e1 k hlt] at h2
        simpa using h2
      · rw [List.drop_of_length_le (by omega)]
        rfl
  rw [e3, List.append_nil, List.length_take]
  omega
theorem clone_hp {w0 w : World} {L : List (Nat × Asn)} {i : Nat} {Av : Option Addr} {n cv : Nat} {l : List S67} (H : Hp w0 w L) (p : Nat) (hi : L[p]? = some (i, Asn.row k67 67 (.slice Av n cv) l)) (hn : Go.Proofs.YtgbmlkoblcfceaaW.Hp.lone i L p = true) (k : Nat) (hk : k ≤ l.length) (hl : l.length < 4398046511104) :
    Calls Try.prog 38 #[.slice (if cv = k then Av else Av.map (·.add (k * 2))) (l.length - k) (cv - k)] w fun e w' => ∃ v, e = .returned v ∧ Hp w0 w' (L.set p (i, Asn.row k67 67 v (l.drop k))) := by
  obtain ⟨lab, hall⟩ := H.all
  have hR := Kd.R_bound (hall.get hi)
  obtain ⟨hnl, hcap, _⟩ := H.row_C p hi
  have hM := rows_drop (row_M hR) hk (by omega : l.length ≤ cv)
  have hcon := clone67 _ _ (cv - k) (l.drop k) w hM (fun x hx => hx.2.2.1) (by rw [List.length_drop]; omega)
  rw [List.length_drop] at hcon
  refine hcon.mono ?_
  rintro e w' ⟨v, rfl, hR2, hb⟩
  exact ⟨v, rfl, H.turn hall p hn hb.os hb.tape hb.output hb.size (A' := Asn.row k67 67 v (l.drop k)) (Kd.R_mono hR2 (fun x hx => hx.elim (fun h => .inl h.1) .inr)) (fun x hx _ => hb.block x hx)⟩
set_option maxHeartbeats 8000000 in
set_option maxRecDepth 100000 in
theorem forget_no' (b : Nat) (s : V) (ts : Int) (h : ts ≤ s.fl) : Tr Try.prog 23 #[.pointer (some ⟨b, 0, none⟩), .int .i64 ts] Asn.top (isV b s) (fun r => Asn.and (Asn.lift (r = .int .i64 0)) (isV b s)) := by
  refine Tr.intro fun w U H0 => ?_
  obtain ⟨v, H1⟩ := H0.open_ 2 rfl
  have H : Hp w w [(0, Asn.old w U), (0, Asn.top), (1, Asn.box b #[.bool true, v, .int .i64 s.fl, .int .i64 s.la] 61), (2, Asn.row k67 67 v s.l)] := H1.split 2 2 rfl rfl (by decide)
  clear H0 H1
  have z0 : w.cell? ⟨b, 0, none⟩ = some (.bool true) := H.cell 2 rfl 0 rfl
  have z2 : w.cell? ⟨b, 2, none⟩ = some (.int .i64 s.fl) := H.cell 2 rfl 2 rfl
  have d1 : decide (ts ≤ s.fl) = true := decide_eq_true h
  clear h
  go_enter Try.func23, Try.ntmps23
  go_wp2_with (go_at_call 30; refine (none_calls b w true z0).mono ?_; rintro e w' ⟨rfl, rfl⟩)
  go_ret
  exact ⟨_, rfl, shutV H⟩
set_option maxHeartbeats 8000000 in
set_option maxRecDepth 100000 in
theorem forget_go (b : Nat) (s : V) (ts : Int) (h : ¬ ts ≤ s.fl) (hl : s.l.length < 4398046511104) : Tr Try.prog 23 #[.pointer (some ⟨b, 0, none⟩), .int .i64 ts] Asn.top (isV b s) (fun r => Asn.and (Asn.lift (r = .int .i64 (fgn ts s.l))) (isV b ⟨s.l.drop (fgn ts s.l), ts, s.la⟩)) := by
  refine Tr.intro fun w U H0 => ?_
  obtain ⟨v, H1⟩ := H0.open_ 2 rfl
  have H : Hp w w [(0, Asn.old w U), (0, Asn.top), (1, Asn.box b #[.bool true, v, .int .i64 s.fl, .int .i64 s.la] 61), (2, Asn.row k67 67 v s.l)] := H1.split 2 2 rfl rfl (by decide)
  clear H0 H1
  obtain ⟨Av, cv, rfl⟩ := H.fact 3 rfl (fun S h => Kd.R_slice h)
  have z0 : w.cell? ⟨b, 0, none⟩ = some (.bool true) := H.cell 2 rfl 0 rfl
  have z1 : w.cell? ⟨b, 1, none⟩ = some (.slice Av s.l.length cv) := H.cell 2 rfl 1 rfl
  have z2 : w.cell? ⟨b, 2, none⟩ = some (.int .i64 s.fl) := H.cell 2 rfl 2 rfl
  have u1 := H.unfrozen 2 rfl 1
  have u2 := H.unfrozen 2 rfl 2
  obtain ⟨_, hcap, hC⟩ := H.row_C 3 rfl
  have d1 : decide (ts ≤ s.fl) = false := decide_eq_false h
  have HH := Aside0.mk H
  have HC := Aside0.mk hC
  clear h H hC
  go_enter Try.func23, Try.ntmps23
  go_wp2_with (go_at_call 30; refine (none_calls b w true z0).mono ?_; rintro e w' ⟨rfl, rfl⟩)
  go_loopg [5] s.l.length (fun gk v5 wr => ∃ k : Nat, v5 = .int .i64 k ∧ k ≤ s.l.length ∧ s.l.length - k ≤ gk ∧ wr = w ∧ Aside0 (∀ j : Nat, j < k → (rd_T67 s.l (j : Int)).f0 ≤ ts))
  case atStart => exact ⟨0, rfl, Nat.zero_le _, by omega, rfl, ⟨fun j hj => absurd hj (Nat.not_lt_zero _)⟩⟩
  case round =>
    obtain ⟨k, rfl, hkl, hgk, rfl, HI⟩ := hrel
    have hend : ∀ (hq : k = s.l.length ∨ ¬ (rd_T67 s.l (k : Int)).f0 ≤ ts), fgn ts s.l = k := fun hq => fgn_at hkl HI.out hq
    have HE := Aside0.mk hend
    clear hend
    by_cases hlt : k < s.l.length
    · have hltz : (k : Int) < (s.l.length : Int) := by omega
      obtain ⟨ad, A1, c1, e1, x0, x1, _, _⟩ := at_T67 HC.out (k : Int) (by omega) hltz
      cases e1
      rw [Int.toNat_natCast] at x0
      clear x1
      have HX : Aside0 (∀ j : Nat, j < k + 1 → (rd_T67 s.l (k : Int)).f0 ≤ ts → (rd_T67 s.l (j : Int)).f0 ≤ ts) := ⟨fun j hj hk => by
        by_cases e : j = k
        · subst e; exact hk
        · exact HI.out j (by omega)⟩
      generalize rd_T67 s.l (k : Int) = x at x0 HX HE
      by_cases hq : x.f0 ≤ ts
      · have d2 : decide (x.f0 ≤ ts) = true := decide_eq_true hq
        have HN : Aside0 (∀ j : Nat, j < k + 1 → (rd_T67 s.l (j : Int)).f0 ≤ ts) := ⟨fun j hj => HX.out j hj hq⟩
        have HGK := Aside0.mk hgk
        clear hq hgk
        go_wp2
        go_roundg (s.l.length - (k + 1))
        case measure => have := HGK.out; omega
        case rel => exact ⟨k + 1, by go_num, by omega, by omega, rfl, HN⟩
      · have d2 : decide (x.f0 ≤ ts) = false := decide_eq_false hq
        have he : fgn ts s.l = k := HE.out (.inr hq)
        obtain ⟨i0, hi0, _, hsz, _⟩ := info_parts info67b
        have hcut := cut_from (P := Try.prog) 59 67 .i64 Try.underlying59 hi0 2 hsz (some ad) s.l.length cv (k : Int) (by omega) (by omega)
        rw [Int.toNat_natCast] at hcut
        have hcl := clone_hp HH.out 3 rfl rfl k hkl hl
        generalize (if cv = k then some ad else (some ad).map (·.add (k * 2))) = A' at hcut hcl
        have HCL := Aside0.mk hcl
        have HF := Aside0.mk he
        clear hq hcl he hi0 hsz HE HX
        go_wp2_with (go_at_call 38; refine HCL.out.mono ?_; rintro e w3 ⟨v3, rfl, H3⟩; obtain ⟨A3, c3, rfl⟩ := H3.fact 3 rfl (fun _ h => Kd.R_slice h); rw [List.length_drop] at H3 ⊢; have t1 := H3.unfrozen 2 rfl 1; have t2 := H3.unfrozen 2 rfl 2; have t3 := H3.cell 2 rfl 1 (v := .slice (some ad) s.l.length cv) rfl; have t4 := H3.cell 2 rfl 2 (v := .int .i64 s.fl) rfl)
        go_ret
        refine ⟨_, rfl, ?_⟩
        rw [HF.out]
        exact shutV (l := s.l.drop k) (fl := ts) (la := s.la) (((H3.box_set 2 rfl rfl 1 (.slice A3 (s.l.length - k) c3)).box_set 2 rfl rfl 2 (.int .i64 ts)).keep [0, 1, 2, 3])
    · have he : k = s.l.length := by omega
      have hltz : ¬ (k : Int) < (s.l.length : Int) := by omega
      have hf : fgn ts s.l = k := HE.out (.inl he)
      obtain ⟨i0, hi0, _, hsz, _⟩ := info_parts info67b
      have hcut := cut_from (P := Try.prog) 59 67 .i64 Try.underlying59 hi0 2 hsz Av s.l.length cv (k : Int) (by omega) (by omega)
      rw [Int.toNat_natCast] at hcut
      have hcl := clone_hp HH.out 3 rfl rfl k hkl hl
      generalize (if cv = k then Av else Av.map (·.add (k * 2))) = A' at hcut hcl
      have HCL := Aside0.mk hcl
      have HF := Aside0.mk hf
      clear hcl hf he hi0 hsz HE
      go_wp2_with (go_at_call 38; refine HCL.out.mono ?_; rintro e w3 ⟨v3, rfl, H3⟩; obtain ⟨A3, c3, rfl⟩ := H3.fact 3 rfl (fun _ h => Kd.R_slice h); rw [List.length_drop] at H3 ⊢; have t1 := H3.unfrozen 2 rfl 1; have t2 := H3.unfrozen 2 rfl 2; have t3 := H3.cell 2 rfl 1 (v := .slice Av s.l.length cv) rfl; have t4 := H3.cell 2 rfl 2 (v := .int .i64 s.fl) rfl)
      go_ret
      refine ⟨_, rfl, ?_⟩
      rw [HF.out]
      exact shutV (l := s.l.drop k) (fl := ts) (la := s.la) (((H3.box_set 2 rfl rfl 1 (.slice A3 (s.l.length - k) c3)).box_set 2 rfl rfl 2 (.int .i64 ts)).keep [0, 1, 2, 3])
theorem forget_tr (b : Nat) (s : V) (ts : Int) (hl : s.l.length < 4398046511104) : Tr Try.prog 23 #[.pointer (some ⟨b, 0, none⟩), .int .i64 ts] Asn.top (isV b s) (fun r => Asn.and (Asn.lift (r = .int .i64 (forgetV s ts).1)) (isV b (forgetV s ts).2)) := by
  unfold forgetV
  by_cases h : ts ≤ s.fl
  · rw [if_pos h]
    exact forget_no' b s ts h
  · rw [if_neg h]
    exact forget_go b s ts h hl
end Go.Proofs.Ytgbmlkoblcfceaa.Vd

set_option linter.unusedVariables false
set_option linter.unusedSimpArgs false
namespace Go.Proofs.Ytgbmlkoblcfceaa.Vd
open Go.RowKit Go.Proofs.Ytgbmlkoblcfceaa.B Go.Proofs.YtgbmlkoblcfceaaW.PrintWords Go.Proofs.YtgbmlkoblcfceaaW.PrintLast Go.Proofs.YtgbmlkoblcfceaaW.PrintMore Go.Proofs.YtgbmlkoblcfceaaW.Mine Go.Proofs.YtgbmlkoblcfceaaW.Hp
attribute [local go_sem] max2_int min2_int max_two min_two
theorem h65 : Kd.Heap k65 := Kd.heap_iso _ (Kd.heap_pair Kd.heap_string Kd.heap_string)
theorem h28 : Kd.Heap k28 := Kd.heap_iso _ (Kd.heap_pair (Kd.heap_int _) (Kd.heap_pair (Kd.heap_int _) (Kd.heap_pair (Kd.heap_int _) (Kd.heap_pair (Kd.heap_iso _ (Kd.heap_pair (Kd.heap_slice 9 Kd.heap_string) (Kd.heap_slice 65 (Kd.heap_iso _ (Kd.heap_pair Kd.heap_string Kd.heap_string))))) (Kd.heap_slice 9 Kd.heap_string)))))
theorem wf64 {n : Int} (h : (Lit.int .i64 n).wf = true) : -9223372036854775808 ≤ n ∧ n ≤ 9223372036854775807 := by
  have h1 := (Bool.and_eq_true_iff.1 h)
  have e1 : IntKind.i64.min = -9223372036854775808 := by decide
  have e2 : IntKind.i64.max = 9223372036854775807 := by decide
  exact ⟨e1 ▸ of_decide_eq_true h1.1, e2 ▸ of_decide_eq_true h1.2⟩
theorem wfu16 {n : Int} (h : (Lit.int .u16 n).wf = true) : 0 ≤ n ∧ n ≤ 65535 := by
  have h1 := (Bool.and_eq_true_iff.1 h)
  have e1 : IntKind.u16.min = 0 := by decide
  have e2 : IntKind.u16.max = 65535 := by decide
  exact ⟨e1 ▸ of_decide_eq_true h1.1, e2 ▸ of_decide_eq_true h1.2⟩
theorem clash_serial {rk : List ByteArray} {rr : List S65} {mine other : List ByteArray} (h : clash 1 rk rr mine other = true) : clash 2 rk rr mine other = true := by
  unfold clash at *
  rw [List.any_eq_true] at *
  obtain ⟨x, hx, h⟩ := h
  refine ⟨x, hx, ?_⟩
  unfold hitB at *
  simp only [show decide ((1 : Int) = 2) = false from rfl, Bool.false_and, Bool.or_false] at h
  rw [h, Bool.true_or]
theorem ckl_serial {snap : Int} {rk : List ByteArray} {rr : List S65} {mine : List ByteArray} {l : List S67} : ∀ {i : Nat}, ckl snap 1 rk rr mine l i = true → ckl snap 2 rk rr mine l i = true
  | 0, h => h
  | i + 1, h => by
    simp only [ckl] at h ⊢
    by_cases h1 : (rd_T67 l i).f0 ≤ snap
    · rw [if_pos h1] at h; cases h
    · rw [if_neg h1] at h ⊢
      by_cases h2 : clash 1 rk rr mine (rd_T67 l i).f1 = true
      · rw [if_pos (clash_serial h2)]
      · rw [if_neg h2] at h
        by_cases h3 : clash 2 rk rr mine (rd_T67 l i).f1 = true
        · rw [if_pos h3]
        · rw [if_neg h3]; exact ckl_serial h
theorem ckl_lower {snap snap' lv : Int} (hs : snap ≤ snap') {rk : List ByteArray} {rr : List S65} {mine : List ByteArray} {l : List S67} : ∀ {i : Nat}, ckl snap' lv rk rr mine l i = true → ckl snap lv rk rr mine l i = true
  | 0, h => h
  | i + 1, h => by
    simp only [ckl] at h ⊢
    by_cases h1 : (rd_T67 l i).f0 ≤ snap'
    · rw [if_pos h1] at h; cases h
    · rw [if_neg h1] at h
      rw [if_neg (by omega)]
      by_cases h2 : clash lv rk rr mine (rd_T67 l i).f1 = true
      · rw [if_pos h2]
      · rw [if_neg h2] at h ⊢
        exact ckl_lower hs h
theorem c230_zero {b : Bool} : c230 b = 0 ↔ b = false := by
  cases b <;> simp [c230]
theorem chk_zero {fl : Int} {l : List S67} {snap lv : Int} (hlv : lv = 1 ∨ lv = 2) (h0 : 0 ≤ snap) {rk : List ByteArray} {rr : List S65} {mine : List ByteArray} : chk fl l snap lv rk rr mine = 0 ↔ fl ≤ snap ∧ ckl snap lv rk rr mine l l.length = false := by
  unfold chk
  rw [if_neg (by omega)]
  by_cases h : snap < fl
  · rw [if_pos h]
    constructor
    · intro e; cases e
    · intro e; omega
  · rw [if_neg h, c230_zero]
    constructor
    · intro e; exact ⟨by omega, e⟩
    · intro e; exact e.2
theorem chk_serial {fl : Int} {l : List S67} {snap : Int} (h0 : 0 ≤ snap) {rk : List ByteArray} {rr : List S65} {mine : List ByteArray} (h : chk fl l snap 2 rk rr mine = 0) : chk fl l snap 1 rk rr mine = 0 := by
  rw [chk_zero (.inr rfl) h0] at h
  rw [chk_zero (.inl rfl) h0]
  refine ⟨h.1, ?_⟩
  cases e : ckl snap 1 rk rr mine l l.length with
  | false => rfl
  | true => rw [ckl_serial e] at h; cases h.2
theorem chk_lower {fl : Int} {l : List S67} {snap snap' lv : Int} (hlv : lv = 1 ∨ lv = 2) (h0 : 0 ≤ snap) (hs : snap ≤ snap') {rk : List ByteArray} {rr : List S65} {mine : List ByteArray} (h : chk fl l snap lv rk rr mine = 0) : chk fl l snap' lv rk rr mine = 0 := by
  rw [chk_zero hlv h0] at h
  rw [chk_zero hlv (by omega)]
  refine ⟨by omega, ?_⟩
  cases e : ckl snap' lv rk rr mine l l.length with
  | false => rfl
  | true => rw [ckl_lower hs e] at h; cases h.2
section
variable (w : World) (A0 : Option Addr) (c0 : Nat) (ops : List S28) (kd ts lv : Int) (K : Option Addr) (cK : Nat) (rk : List ByteArray) (R : Option Addr) (cR : Nat) (rr : List S65) (M : Option Addr) (cM : Nat) (mine : List ByteArray)
set_option maxHeartbeats 8000000 in
set_option maxRecDepth 100000 in
theorem stricter_bad (less : Int) (hC : Kd.C k28 w A0 ops.length ops) (hc : ops.length ≤ c0) (hs : ∀ x ∈ ops, x.f4.length < 8796093022208) (n3 n4 n5 : Nat) (hts : ts < 0) :
    Calls Try.prog 3 #[.slice A0 ops.length c0, .agg #[.int .i64 kd, .int .i64 ts, .int .i64 lv, .slice K n3 cK, .slice R n4 cR, .slice M n5 cM], .int .u16 less] w fun e w' => e = .returned (.bool true) ∧ Below w.heap.size w w' := by
  have HS := Aside0.mk ((Hp.start w).came h28 0 rfl hC)
  have d1 : decide (ts < 0) = true := decide_eq_true hts
  have HX := Aside0.mk hs
  clear hts hC hs
  go_enter Try.func3, Try.ntmps3
  go_wp2_with (first
    | ((with_reducible refine gate_dst (N := 4) rfl ?_); refine Hp.at_box HS.out 7 ?hg (N := 4) ?hd (cs := #[.int .i64 kd, .int .i64 ts, .int .i64 lv, .slice K n3 cK, .slice R n4 cR, .slice M n5 cM]) (t := 28) ?hr ?_; (case hd => rfl); (case hg => rfl); (case hr => first | (go_simp; done) | (go_simp; rfl)); intro g w1 H1)
    | (go_at_call 10; refine (H1.make 1 (made_tr A0 c0 ops hc HX.out) (fun lab h => (Asn.rd k28 A0 ops.length ops).mono (h.get (p := 1) rfl) (fun _ _ _ => trivial))).mono ?_; rintro e w2 ⟨r2, rfl, H2⟩; obtain ⟨b, H3⟩ := H2.open_ 3 rfl; obtain rfl := H3.fact 3 rfl (fun _ h => h.1); have y1 := H3.cell 2 rfl 1 (v := .int .i64 ts) rfl; clear H1 H2)
    | (go_at_call 11; refine (live_calls _).mono ?_; rintro e w4 ⟨rfl, hb4⟩; have H4 := H3.same hb4))
  go_ret
  exact ⟨rfl, H4.below 0 rfl (fun _ h => h)⟩
set_option maxHeartbeats 16000000 in
set_option maxRecDepth 100000 in
theorem stricter_go (less : Int) (hC : Kd.C k28 w A0 ops.length ops) (hc : ops.length ≤ c0) (hs : ∀ x ∈ ops, x.f4.length < 8796093022208) (h3 : Kd.C Kd.string w K rk.length rk) (hc3 : rk.length ≤ cK) (h4 : Kd.C k65 w R rr.length rr) (hc4 : rr.length ≤ cR) (h5 : Kd.C Kd.string w M mine.length mine) (hc5 : mine.length ≤ cM) (hts : 0 ≤ ts) (hts2 : ts ≤ 9223372036854775807) (hl0 : 0 ≤ less) (hl1 : less ≤ 65535) :
    Calls Try.prog 3 #[.slice A0 ops.length c0, .agg #[.int .i64 kd, .int .i64 ts, .int .i64 lv, .slice K rk.length cK, .slice R rr.length cR, .slice M mine.length cM], .int .u16 less] w fun e w' => e = .returned (.bool true) ∧ Below w.heap.size w w' := by
  have HS := Aside0.mk (((((Hp.start w).came h28 0 rfl hC).came Kd.heap_string 0 rfl h3).came h65 0 rfl h4).came Kd.heap_string 0 rfl h5)
  have d1 : decide (ts < 0) = false := decide_eq_false (by omega)
  have HX := Aside0.mk hs
  obtain ⟨lo, hlo⟩ : ∃ lo : Int, (if less < ts then ts - less else 0) = lo := ⟨_, rfl⟩
  have hlo0 : 0 ≤ lo ∧ lo ≤ ts := by rw [← hlo]; split <;> omega
  obtain ⟨a, ha⟩ : ∃ a, chk (madeV ops).fl (madeV ops).l ts 1 rk rr mine = a := ⟨_, rfl⟩
  obtain ⟨b, hb⟩ : ∃ b, chk (madeV ops).fl (madeV ops).l ts 2 rk rr mine = b := ⟨_, rfl⟩
  obtain ⟨c, hcc⟩ : ∃ c, chk (madeV ops).fl (madeV ops).l lo 1 rk rr mine = c := ⟨_, rfl⟩
  obtain ⟨d, hd⟩ : ∃ d, chk (madeV ops).fl (madeV ops).l lo 2 rk rr mine = d := ⟨_, rfl⟩
  have P1 : b = 0 → a = 0 := fun e => by rw [← ha]; exact chk_serial hts (hb.trans e)
  have P2 : c = 0 → a = 0 := fun e => by rw [← ha]; exact chk_lower (.inl rfl) hlo0.1 hlo0.2 (hcc.trans e)
  have P3 : d = 0 → b = 0 := fun e => by rw [← hb]; exact chk_lower (.inr rfl) hlo0.1 hlo0.2 (hd.trans e)
  have HA := Aside0.mk ha
  have HB := Aside0.mk hb
  have HC := Aside0.mk hcc
  have HD := Aside0.mk hd
  have HP : Aside0 ((b = 0 → a = 0) ∧ (c = 0 → a = 0) ∧ (d = 0 → b = 0)) := ⟨P1, P2, P3⟩
  clear hC hs h3 h4 h5 hlo0 ha hb hcc hd P1 P2 P3
  go_enter Try.func3, Try.ntmps3
  go_upto_region 6 with (first
    | ((with_reducible refine gate_dst (N := 4) rfl ?_); refine Hp.at_box HS.out 7 ?hg (N := 4) ?hd (cs := #[.int .i64 kd, .int .i64 ts, .int .i64 lv, .slice K rk.length cK, .slice R rr.length cR, .slice M mine.length cM]) (t := 28) ?hr ?_; (case hd => rfl); (case hg => rfl); (case hr => first | (go_simp; done) | (go_simp; rfl)); intro g w1 H1)
    | (go_at_call 10; refine (H1.make 1 (made_tr A0 c0 ops hc HX.out) (fun lab h => (Asn.rd k28 A0 ops.length ops).mono (h.get (p := 1) rfl) (fun _ _ _ => trivial))).mono ?_; rintro e w2 ⟨r2, rfl, H2⟩; obtain ⟨bb, H3⟩ := H2.open_ 6 rfl; obtain rfl := H3.fact 6 rfl (fun _ h => h.1); have y1 := H3.cell 5 rfl 1 (v := .int .i64 ts) rfl; have y3 := H3.cell 5 rfl 3 (v := .slice K rk.length cK) rfl; have H4 := H3.imp (A' := isV bb (madeV ops)) 6 rfl (fun _ h => h.2); clear H1 H2 H3)
    | (go_at_call 11; refine (live_calls _).mono ?_; rintro e w4 ⟨rfl, hb4⟩; have H5 := H4.same hb4; clear y1 y3 H4 hb4; have y1 := H5.cell 5 rfl 1 (v := .int .i64 ts) rfl; have y3 := H5.cell 5 rfl 3 (v := .slice K rk.length cK) rfl; have y4 := H5.cell 5 rfl 4 (v := .slice R rr.length cR) rfl; have y5 := H5.cell 5 rfl 5 (v := .slice M mine.length cM) rfl)
    | (go_at_call 12; refine (check_is H5 6 rfl ts 1 a ⟨H5.reads 2 rfl, hc3, H5.reads 3 rfl, hc4, H5.reads 4 rfl, hc5⟩ HA.out).mono ?_; rintro e w6 ⟨rfl, H6⟩; clear H5 y1 y3 y4 y5; have y1 := H6.cell 5 rfl 1 (v := .int .i64 ts) rfl; have y3 := H6.cell 5 rfl 3 (v := .slice K rk.length cK) rfl; have y4 := H6.cell 5 rfl 4 (v := .slice R rr.length cR) rfl; have y5 := H6.cell 5 rfl 5 (v := .slice M mine.length cM) rfl)
    | (go_at_call 12; refine (check_is H6 6 rfl ts 2 b ⟨H6.reads 2 rfl, hc3, H6.reads 3 rfl, hc4, H6.reads 4 rfl, hc5⟩ HB.out).mono ?_; rintro e w7 ⟨rfl, H7⟩; clear H6 y1 y3 y4 y5; have y1 := H7.cell 5 rfl 1 (v := .int .i64 ts) rfl; have y3 := H7.cell 5 rfl 3 (v := .slice K rk.length cK) rfl; have y4 := H7.cell 5 rfl 4 (v := .slice R rr.length cR) rfl; have y5 := H7.cell 5 rfl 5 (v := .slice M mine.length cM) rfl))
  go_upto_region 9 with (first
    | (go_at_call 12; refine (check_is H7 6 rfl lo 1 c ⟨H7.reads 2 rfl, hc3, H7.reads 3 rfl, hc4, H7.reads 4 rfl, hc5⟩ HC.out).mono ?_; rintro e w8 ⟨rfl, H8⟩; clear H7 y1 y3 y4 y5; have y1 := H8.cell 5 rfl 1 (v := .int .i64 ts) rfl; have y3 := H8.cell 5 rfl 3 (v := .slice K rk.length cK) rfl; have y4 := H8.cell 5 rfl 4 (v := .slice R rr.length cR) rfl; have y5 := H8.cell 5 rfl 5 (v := .slice M mine.length cM) rfl)
    | (go_at_call 12; refine (check_is H8 6 rfl lo 2 d ⟨H8.reads 2 rfl, hc3, H8.reads 3 rfl, hc4, H8.reads 4 rfl, hc5⟩ HD.out).mono ?_; rintro e w9 ⟨rfl, H9⟩; clear H8 y1 y3 y4 y5; have y1 := H9.cell 5 rfl 1 (v := .int .i64 ts) rfl; have y3 := H9.cell 5 rfl 3 (v := .slice K rk.length cK) rfl; have y4 := H9.cell 5 rfl 4 (v := .slice R rr.length cR) rfl; have y5 := H9.cell 5 rfl 5 (v := .slice M mine.length cM) rfl))
  obtain ⟨P1, P2, P3⟩ := HP.out
  clear HA HB HC HD HP hlo y1 y3 y4 y5
  by_cases qb : b = 0
  · have qa := P1 qb
    subst qa qb
    clear P1 P2 P3
    go_wp2
    go_ret
    exact ⟨rfl, H9.below 0 rfl (fun _ h => h)⟩
  · have qd : d ≠ 0 := fun e => qb (P3 e)
    have b1 : (b == 0) = false := beq_eq_false_iff_ne.mpr qb
    have b2 : (b != 0) = true := bne_iff_ne.mpr qb
    have e1 : (d == 0) = false := beq_eq_false_iff_ne.mpr qd
    have e2 : (d != 0) = true := bne_iff_ne.mpr qd
    by_cases qa : a = 0
    · subst qa
      clear P1 P2 P3 qb qd
      go_wp2
      go_ret
      exact ⟨rfl, H9.below 0 rfl (fun _ h => h)⟩
    · have qc : c ≠ 0 := fun e => qa (P2 e)
      have a1 : (a == 0) = false := beq_eq_false_iff_ne.mpr qa
      have a2 : (a != 0) = true := bne_iff_ne.mpr qa
      have c1 : (c == 0) = false := beq_eq_false_iff_ne.mpr qc
      have c2 : (c != 0) = true := bne_iff_ne.mpr qc
      clear P1 P2 P3 qa qb qc qd
      go_wp2
      go_ret
      exact ⟨rfl, H9.below 0 rfl (fun _ h => h)⟩
end
theorem ValidStricter : cressetlaw23_ValidStricter.Pure := by
  intro A0 c0 ops kd ts lv K cK rk R cR rr M cM mine less w h0 hc0 h3 hc3 h4 hc4 h5 hc5 w0 _ w1 _ _ _ _ w2
  have hs : ∀ x ∈ ops, x.f4.length < 8796093022208 := fun x hx => by
    have := (w0.2.2 x hx).2.2.2.2.2.1
    omega
  have hb : -9223372036854775808 ≤ ts ∧ ts ≤ 9223372036854775807 := wf64 w1
  have hl : 0 ≤ less ∧ less ≤ 65535 := wfu16 w2
  by_cases h : ts < 0
  · exact stricter_bad w A0 c0 ops kd ts lv K cK R cR M cM less h0 hc0 hs _ _ _ h
  · exact stricter_go w A0 c0 ops kd ts lv K cK rk R cR rr M cM mine less h0 hc0 hs h3 hc3 h4 hc4 h5 hc5 (by omega) hb.2 hl.1 hl.2
end Go.Proofs.Ytgbmlkoblcfceaa.Vd

set_option linter.unusedVariables false
set_option linter.unusedSimpArgs false
namespace Go.Proofs.Ytgbmlkoblcfceaa.Vd
open Go.RowKit Go.Proofs.Ytgbmlkoblcfceaa.B Go.Proofs.YtgbmlkoblcfceaaW.PrintWords Go.Proofs.YtgbmlkoblcfceaaW.PrintLast Go.Proofs.YtgbmlkoblcfceaaW.PrintMore Go.Proofs.YtgbmlkoblcfceaaW.Mine Go.Proofs.YtgbmlkoblcfceaaW.Hp
theorem len_calls (b : Nat) (w : World) (A : Option Addr) (n c : Nat) (fl la : Int) (h : vb b (.slice A n c) fl la w) : Calls Try.prog 22 #[.pointer (some ⟨b, 0, none⟩)] w fun e w' => e = .returned (.int .i64 n) ∧ w = w' := by
  have z0 := h.c0
  have z1 := h.c1
  clear h
  go_enter Try.func22, Try.ntmps22
  go_wp2_with (go_at_call 30; refine (none_calls b w true z0).mono ?_; rintro e w' ⟨rfl, rfl⟩)
  go_ret
  exact ⟨rfl, rfl⟩
theorem len_hp {w0 w : World} {L : List (Nat × Asn)} {i b : Nat} {s : V} (H : Hp w0 w L) (p : Nat) (hi : L[p]? = some (i, isV b s)) : Calls Try.prog 22 #[.pointer (some ⟨b, 0, none⟩)] w fun e w' => e = .returned (.int .i64 s.l.length) ∧ w = w' := by
  obtain ⟨A, c, hv, hC, hc⟩ := H.fact p hi (fun S h => isV_see h)
  exact len_calls b w A s.l.length c s.fl s.la hv
def Rising (s : V) : Prop := s.fl ≤ s.la ∧ s.l.length ≤ 4096 ∧ (∀ x ∈ s.l, x.f0 ≤ s.la) ∧ s.l.Pairwise (fun x y => x.f0 < y.f0)
theorem Rising.add {s : V} (h : Rising s) (ts : Int) (ws : List ByteArray) : Rising (addV s ts ws).2 := by
  obtain ⟨h1, h2, h3, h4⟩ := h
  unfold addV
  split
  · exact ⟨h1, h2, h3, h4⟩
  · split
    · exact ⟨h1, h2, h3, h4⟩
    · refine ⟨by show s.fl ≤ ts; omega, by simp; omega, ?_, ?_⟩
      · intro x hx
        rcases List.mem_append.1 hx with hx | hx
        · have := h3 x hx
          show x.f0 ≤ ts
          omega
        · rw [List.mem_singleton.1 hx]; exact Int.le_refl _
      · rw [List.pairwise_append]
        refine ⟨h4, List.pairwise_singleton _ _, ?_⟩
        intro x hx y hy
        rw [List.mem_singleton.1 hy]
        have := h3 x hx
        show x.f0 < ts
        omega
theorem Rising.mk1 {s : V} (h : Rising s) (x : S28) : Rising (mk1 s x) := by
  unfold Vd.mk1
  split
  · exact h.add _ _
  · exact h
theorem Rising.made (ops : List S28) : Rising (madeV ops) := by
  unfold madeV
  have : ∀ (ops : List S28) (s : V), Rising s → Rising (ops.foldl Vd.mk1 s) := by
    intro ops
    induction ops with
    | nil => intro s h; exact h
    | cons x ops ih => intro s h; exact ih _ (h.mk1 x)
  exact this ops _ ⟨Int.le_refl _, Nat.zero_le _, fun x hx => (List.not_mem_nil hx).elim, List.Pairwise.nil⟩
theorem rd_at {l : List S67} {i : Nat} (h : i < l.length) : rd_T67 l (i : Int) = l[i] := by
  unfold rd_T67
  rw [Int.toNat_natCast, List.getD_eq_getElem?_getD, List.getElem?_eq_getElem h]
  rfl
theorem ckl_any {snap lv : Int} {rk : List ByteArray} {rr : List S65} {mine : List ByteArray} {l : List S67} (hp : l.Pairwise (fun x y => x.f0 < y.f0)) : ∀ {i : Nat}, i ≤ l.length → ckl snap lv rk rr mine l i = (l.take i).any (fun x => decide (snap < x.f0) && clash lv rk rr mine x.f1)
  | 0, _ => by simp [ckl]
  | i + 1, hi => by
    simp only [ckl]
    rw [rd_at (by omega), List.take_succ_eq_append_getElem (by omega), List.any_append]
    by_cases h1 : l[i].f0 ≤ snap
    · rw [if_pos h1]
      symm
      rw [Bool.or_eq_false_iff]
      constructor
      · rw [List.any_eq_false]
        intro x hx
        obtain ⟨j, hj, rfl⟩ := List.mem_iff_getElem.1 hx
        rw [List.length_take] at hj
        rw [List.getElem_take]
        have := List.pairwise_iff_getElem.1 hp j i (by omega) (by omega) (by omega)
        rw [show decide (snap < l[j].f0) = false from decide_eq_false (by omega)]
        simp
      · simp
        intro h2
        omega
    · rw [if_neg h1, ckl_any hp (by omega)]
      have : decide (snap < l[i].f0) = true := decide_eq_true (by omega)
      by_cases h2 : clash lv rk rr mine l[i].f1 = true
      · rw [if_pos h2]; simp [this, h2]
      · rw [if_neg h2]
        simp [h2]
theorem chk_forget {s : V} (hr : Rising s) {ts snap lv : Int} (h0 : 0 ≤ ts) (hs : ts ≤ snap) {rk : List ByteArray} {rr : List S65} {mine : List ByteArray} :
    chk (forgetV s ts).2.fl (forgetV s ts).2.l snap lv rk rr mine = chk s.fl s.l snap lv rk rr mine := by
  unfold forgetV
  split
  · rfl
  · rename_i hf
    unfold chk
    by_cases hb : (lv ≠ 1 ∧ lv ≠ 2) ∨ snap < 0
    · rw [if_pos hb, if_pos hb]
    · rw [if_neg hb, if_neg hb, if_neg (by show ¬ snap < ts; omega), if_neg (by omega)]
      congr 1
      have hp := hr.2.2.2
      have hp2 : (s.l.drop (fgn ts s.l)).Pairwise (fun x y => x.f0 < y.f0) := hp.sublist (List.drop_sublist _ _)
      show ckl snap lv rk rr mine (s.l.drop (fgn ts s.l)) (s.l.drop (fgn ts s.l)).length = _
      rw [ckl_any hp2 (Nat.le_refl _), ckl_any hp (Nat.le_refl _), List.take_length, List.take_length]
      conv => rhs; rw [← List.take_append_drop (fgn ts s.l) s.l, List.any_append]
      have : (s.l.take (fgn ts s.l)).any (fun x => decide (snap < x.f0) && clash lv rk rr mine x.f1) = false := by
        rw [List.any_eq_false]
        intro x hx
        have hx2 : x ∈ s.l.takeWhile (fun x => decide (x.f0 ≤ ts)) := by
          have e : s.l.take (fgn ts s.l) = s.l.takeWhile (fun x => decide (x.f0 ≤ ts)) := (List.prefix_iff_eq_take.1 (List.takeWhile_prefix _)).symm
          rw [← e]; exact hx
        have := of_decide_eq_true ((List.all_eq_true.1 List.all_takeWhile) x hx2)
        rw [show decide (snap < x.f0) = false from decide_eq_false (by omega)]
        simp
      rw [this, Bool.false_or]
theorem forget_len {s : V} (hr : Rising s) (ts : Int) : 0 ≤ (forgetV s ts).1 ∧ (forgetV s ts).1 ≤ s.l.length ∧ ((forgetV s ts).2.l.length : Int) = s.l.length - (forgetV s ts).1 := by
  unfold forgetV
  split
  · exact ⟨Int.le_refl _, by show (0 : Int) ≤ _; omega, by show (s.l.length : Int) = s.l.length - 0; omega⟩
  · have : fgn ts s.l ≤ s.l.length := (List.takeWhile_prefix _).length_le
    refine ⟨by show (0 : Int) ≤ (fgn ts s.l : Int); omega, by show (fgn ts s.l : Int) ≤ _; omega, ?_⟩
    show ((s.l.drop (fgn ts s.l)).length : Int) = s.l.length - (fgn ts s.l : Int)
    rw [List.length_drop]
    omega
section
variable (w : World) (A0 : Option Addr) (c0 : Nat) (ops : List S28) (kd sn lv : Int) (K : Option Addr) (cK : Nat) (rk : List ByteArray) (R : Option Addr) (cR : Nat) (rr : List S65) (M : Option Addr) (cM : Nat) (mine : List ByteArray)
set_option maxHeartbeats 8000000 in
set_option maxRecDepth 100000 in
theorem forgets_bad (ts : Int) (hC : Kd.C k28 w A0 ops.length ops) (hc : ops.length ≤ c0) (hs : ∀ x ∈ ops, x.f4.length < 8796093022208) (n3 n4 n5 : Nat) (hts : ts < 0 ∨ sn < ts) :
    Calls Try.prog 7 #[.slice A0 ops.length c0, .agg #[.int .i64 kd, .int .i64 sn, .int .i64 lv, .slice K n3 cK, .slice R n4 cR, .slice M n5 cM], .int .i64 ts] w fun e w' => e = .returned (.bool true) ∧ Below w.heap.size w w' := by
  have HS := Aside0.mk ((Hp.start w).came h28 0 rfl hC)
  have HX := Aside0.mk hs
  clear hC hs
  by_cases h1 : ts < 0
  · have d1 : decide (ts < 0) = true := decide_eq_true h1
    clear hts h1
    go_enter Try.func7, Try.ntmps7
    go_wp2_with (first
      | ((with_reducible refine gate_dst (N := 4) rfl ?_); refine Hp.at_box HS.out 7 ?hg (N := 4) ?hd (cs := #[.int .i64 kd, .int .i64 sn, .int .i64 lv, .slice K n3 cK, .slice R n4 cR, .slice M n5 cM]) (t := 28) ?hr ?_; (case hd => rfl); (case hg => rfl); (case hr => first | (go_simp; done) | (go_simp; rfl)); intro g w1 H1)
      | (go_at_call 10; refine (H1.make 1 (made_tr A0 c0 ops hc HX.out) (fun lab h => (Asn.rd k28 A0 ops.length ops).mono (h.get (p := 1) rfl) (fun _ _ _ => trivial))).mono ?_; rintro e w2 ⟨r2, rfl, H2⟩; obtain ⟨b, H3⟩ := H2.open_ 3 rfl; obtain rfl := H3.fact 3 rfl (fun _ h => h.1); have y1 := H3.cell 2 rfl 1 (v := .int .i64 sn) rfl; clear H1 H2)
      | (go_at_call 11; refine (live_calls _).mono ?_; rintro e w4 ⟨rfl, hb4⟩; have H4 := H3.same hb4))
    go_ret
    exact ⟨rfl, H4.below 0 rfl (fun _ h => h)⟩
  · have d1 : decide (ts < 0) = false := decide_eq_false h1
    have d2 : decide (sn < ts) = true := decide_eq_true (by omega)
    clear hts h1
    go_enter Try.func7, Try.ntmps7
    go_wp2_with (first
      | ((with_reducible refine gate_dst (N := 4) rfl ?_); refine Hp.at_box HS.out 7 ?hg (N := 4) ?hd (cs := #[.int .i64 kd, .int .i64 sn, .int .i64 lv, .slice K n3 cK, .slice R n4 cR, .slice M n5 cM]) (t := 28) ?hr ?_; (case hd => rfl); (case hg => rfl); (case hr => first | (go_simp; done) | (go_simp; rfl)); intro g w1 H1)
      | (go_at_call 10; refine (H1.make 1 (made_tr A0 c0 ops hc HX.out) (fun lab h => (Asn.rd k28 A0 ops.length ops).mono (h.get (p := 1) rfl) (fun _ _ _ => trivial))).mono ?_; rintro e w2 ⟨r2, rfl, H2⟩; obtain ⟨b, H3⟩ := H2.open_ 3 rfl; obtain rfl := H3.fact 3 rfl (fun _ h => h.1); have y1 := H3.cell 2 rfl 1 (v := .int .i64 sn) rfl; clear H1 H2)
      | (go_at_call 11; refine (live_calls _).mono ?_; rintro e w4 ⟨rfl, hb4⟩; have H4 := H3.same hb4))
    go_ret
    exact ⟨rfl, H4.below 0 rfl (fun _ h => h)⟩
set_option maxHeartbeats 16000000 in
set_option maxRecDepth 100000 in
theorem forgets_go (ts : Int) (hC : Kd.C k28 w A0 ops.length ops) (hc : ops.length ≤ c0) (hs : ∀ x ∈ ops, x.f4.length < 8796093022208) (h3 : Kd.C Kd.string w K rk.length rk) (hc3 : rk.length ≤ cK) (h4 : Kd.C k65 w R rr.length rr) (hc4 : rr.length ≤ cR) (h5 : Kd.C Kd.string w M mine.length mine) (hc5 : mine.length ≤ cM) (hts : 0 ≤ ts) (hts2 : ts ≤ sn) :
    Calls Try.prog 7 #[.slice A0 ops.length c0, .agg #[.int .i64 kd, .int .i64 sn, .int .i64 lv, .slice K rk.length cK, .slice R rr.length cR, .slice M mine.length cM], .int .i64 ts] w fun e w' => e = .returned (.bool true) ∧ Below w.heap.size w w' := by
  have HS := Aside0.mk (((((Hp.start w).came h28 0 rfl hC).came Kd.heap_string 0 rfl h3).came h65 0 rfl h4).came Kd.heap_string 0 rfl h5)
  have d1 : decide (ts < 0) = false := decide_eq_false (by omega)
  have d2 : decide (sn < ts) = false := decide_eq_false (by omega)
  have HX := Aside0.mk (made_tr A0 c0 ops hc hs)
  have hr := Rising.made ops
  generalize madeV ops = s at HX hr
  have HFT := Aside0.mk (fun b => forget_tr b s ts (by have := hr.2.1; omega))
  obtain ⟨k0, k1, k2⟩ := forget_len hr ts
  have hn : s.l.length ≤ 4096 := hr.2.1
  have hck := chk_forget hr hts hts2 (lv := lv) (rk := rk) (rr := rr) (mine := mine)
  obtain ⟨a, ha⟩ : ∃ a, chk s.fl s.l sn lv rk rr mine = a := ⟨_, rfl⟩
  have HB := Aside0.mk (hck.trans ha)
  have HA := Aside0.mk ha
  generalize (forgetV s ts).1 = k at k0 k1 k2 HFT
  generalize (forgetV s ts).2 = s' at k2 HFT HB
  have hq : ((s'.l.length : Int) == (s.l.length : Int) - k) = true := beq_iff_eq.mpr k2
  clear hC hs h3 h4 h5 hr hck ha k2
  go_enter Try.func7, Try.ntmps7
  go_wp2_with (first
    | ((with_reducible refine gate_dst (N := 4) rfl ?_); refine Hp.at_box HS.out 7 ?hg (N := 4) ?hd (cs := #[.int .i64 kd, .int .i64 sn, .int .i64 lv, .slice K rk.length cK, .slice R rr.length cR, .slice M mine.length cM]) (t := 28) ?hr ?_; (case hd => rfl); (case hg => rfl); (case hr => first | (go_simp; done) | (go_simp; rfl)); intro g w1 H1)
    | (go_at_call 10; refine (H1.make 1 HX.out (fun lab h => (Asn.rd k28 A0 ops.length ops).mono (h.get (p := 1) rfl) (fun _ _ _ => trivial))).mono ?_; rintro e w2 ⟨r2, rfl, H2⟩; obtain ⟨bb, H3⟩ := H2.open_ 6 rfl; obtain rfl := H3.fact 6 rfl (fun _ h => h.1); have y1 := H3.cell 5 rfl 1 (v := .int .i64 sn) rfl; have H4 := H3.imp (A' := isV bb s) 6 rfl (fun _ h => h.2); clear H1 H2 H3)
    | (go_at_call 11; refine (live_calls _).mono ?_; rintro e w4 ⟨rfl, hb4⟩; have H5 := H4.same hb4; clear y1 H4 hb4; have y1 := H5.cell 5 rfl 1 (v := .int .i64 sn) rfl; have y2 := H5.cell 5 rfl 2 (v := .int .i64 lv) rfl; have y3 := H5.cell 5 rfl 3 (v := .slice K rk.length cK) rfl; have y4 := H5.cell 5 rfl 4 (v := .slice R rr.length cR) rfl; have y5 := H5.cell 5 rfl 5 (v := .slice M mine.length cM) rfl)
    | (go_at_call 12; refine (check_is H5 6 rfl sn lv a ⟨H5.reads 2 rfl, hc3, H5.reads 3 rfl, hc4, H5.reads 4 rfl, hc5⟩ HA.out).mono ?_; rintro e w6 ⟨rfl, H6⟩; clear H5 y1 y2 y3 y4 y5; have y1 := H6.cell 5 rfl 1 (v := .int .i64 sn) rfl; have y2 := H6.cell 5 rfl 2 (v := .int .i64 lv) rfl; have y3 := H6.cell 5 rfl 3 (v := .slice K rk.length cK) rfl; have y4 := H6.cell 5 rfl 4 (v := .slice R rr.length cR) rfl; have y5 := H6.cell 5 rfl 5 (v := .slice M mine.length cM) rfl)
    | (go_at_call 22; refine (len_hp H6 6 rfl).mono ?_; rintro e w' ⟨rfl, rfl⟩)
    | (go_at_call 23; refine (H6.call (HFT.out bb) 6 rfl rfl (fun _ _ => trivial)).mono ?_; rintro e w7 ⟨r7, rfl, H7⟩; obtain rfl := H7.fact 6 rfl (fun _ h => h.1); have H8 := H7.imp (A' := isV bb s') 6 rfl (fun _ h => h.2); clear H6 H7 y1 y2 y3 y4 y5; have y1 := H8.cell 5 rfl 1 (v := .int .i64 sn) rfl; have y2 := H8.cell 5 rfl 2 (v := .int .i64 lv) rfl; have y3 := H8.cell 5 rfl 3 (v := .slice K rk.length cK) rfl; have y4 := H8.cell 5 rfl 4 (v := .slice R rr.length cR) rfl; have y5 := H8.cell 5 rfl 5 (v := .slice M mine.length cM) rfl)
    | (go_at_call 12; refine (check_is H8 6 rfl sn lv a ⟨H8.reads 2 rfl, hc3, H8.reads 3 rfl, hc4, H8.reads 4 rfl, hc5⟩ HB.out).mono ?_; rintro e w9 ⟨rfl, H9⟩; clear H8 y1 y2 y3 y4 y5; have y1 := H9.cell 5 rfl 1 (v := .int .i64 sn) rfl; have y2 := H9.cell 5 rfl 2 (v := .int .i64 lv) rfl; have y3 := H9.cell 5 rfl 3 (v := .slice K rk.length cK) rfl; have y4 := H9.cell 5 rfl 4 (v := .slice R rr.length cR) rfl; have y5 := H9.cell 5 rfl 5 (v := .slice M mine.length cM) rfl)
    | (go_at_call 22; refine (len_hp H9 6 rfl).mono ?_; rintro e w' ⟨rfl, rfl⟩))
  go_ret
  exact ⟨rfl, H9.below 0 rfl (fun _ h => h)⟩
end
theorem ValidForgets : cressetlaw23_ValidForgets.Pure := by
  intro A0 c0 ops kd sn lv K cK rk R cR rr M cM mine ts w h0 hc0 h3 hc3 h4 hc4 h5 hc5 w0 _ _ _ _ _ _ _
  have hs : ∀ x ∈ ops, x.f4.length < 8796093022208 := fun x hx => by
    have := (w0.2.2 x hx).2.2.2.2.2.1
    omega
  by_cases h : ts < 0 ∨ sn < ts
  · exact forgets_bad w A0 c0 ops kd sn lv K cK R cR M cM ts h0 hc0 hs _ _ _ h
  · exact forgets_go w A0 c0 ops kd sn lv K cK rk R cR rr M cM mine ts h0 hc0 hs h3 hc3 h4 hc4 h5 hc5 (by omega) (by omega)
end Go.Proofs.Ytgbmlkoblcfceaa.Vd

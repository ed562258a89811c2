/-
Of the row ValidOwn: printed walks and plain laws, merged (wip/claim2.py).
-/
import Derived.Test.YtgbmlkoblcfceaaQValidOwn3
import Derived.Test.YtgbmlkoblcfceaaQValidOwn8
import Derived.Test.YtgbmlkoblcfceaaQValidOwn15
import Derived.Test.YtgbmlkoblcfceaaQValidOwn17
set_option linter.unusedVariables false
set_option linter.unusedSimpArgs false
namespace Go.Proofs.Ytgbmlkoblcfceaa.Vd
open Go.RowKit Go.Proofs.Ytgbmlkoblcfceaa.B Go.Proofs.YtgbmlkoblcfceaaW.PrintWords Go.Proofs.YtgbmlkoblcfceaaW.PrintLast Go.Proofs.YtgbmlkoblcfceaaW.PrintMore Go.Proofs.YtgbmlkoblcfceaaW.Mine Go.Proofs.YtgbmlkoblcfceaaW.Hp
theorem isV_see {b : Nat} {s : V} {w : World} {S : Nat → Prop} (h : (isV b s).P w S) : ∃ A c, vb b (.slice A s.l.length c) s.fl s.la w ∧ Kd.C k67 w A s.l.length s.l ∧ s.l.length ≤ c := by
  obtain ⟨v, S1, S2, _, _, hb, hr⟩ := h
  obtain ⟨A, c, rfl, hl, hC⟩ := Kd.R_reads hr
  exact ⟨A, c, hb.1, hC, hl⟩
section
variable {w0 w : World} {L : List (Nat × Asn)} {i : Nat} {K : Option Addr} {cK : Nat} {rk : List ByteArray} {R : Option Addr} {cR : Nat} {rr : List S65} {M : Option Addr} {cM : Nat} {mine : List ByteArray}
theorem check_hp {b : Nat} {s : V} (H : Hp w0 w L) (p : Nat) (hi : L[p]? = some (i, isV b s)) (snap lv : Int) (h : Rd w K cK rk R cR rr M cM mine) :
    Calls Try.prog 12 #[.pointer (some ⟨b, 0, none⟩), .int .i64 snap, .int .i64 lv, .agg #[.slice K rk.length cK, .slice R rr.length cR], .slice M mine.length cM] w fun e w' => e = .returned (.int .i64 (chk s.fl s.l snap lv rk rr mine)) ∧ Hp w0 w' L := by
  obtain ⟨A, c, hv, hC, hc⟩ := H.fact p hi (fun S h => isV_see h)
  refine (check_calls b A c s.l s.fl s.la snap lv hv hC hc h).mono ?_
  rintro e w' ⟨rfl, hb⟩
  exact ⟨rfl, H.same hb⟩
theorem newV (H : Hp w0 w L) (m : Nat) (hn : noLab m L = true) : Calls Try.prog 13 #[] w fun e w' => ∃ b, e = .returned (.pointer (some ⟨b, 0, none⟩)) ∧ Hp w0 w' (L ++ [(m, isV b ⟨[], 0, 0⟩)]) := by
  refine (new_calls w).mono ?_
  rintro e w' ⟨rfl, rfl⟩
  refine ⟨_, rfl, H.new m (al _ _) ?_⟩
  refine ⟨.slice none 0 0, fun k => k = w.heap.size, fun _ => False, fun _ _ h => h, fun k hk _ => ?_, ⟨blk_new w _, rfl⟩, Kd.R_nil _ _ _ _ _⟩
  rcases hk with rfl | hk
  · exact Nat.le_refl _
  · exact hk.elim
end
theorem mem_cgo {x : ByteArray} : ∀ {l : List ByteArray} {p : ByteArray}, x ∈ l → ∃ y, (y = p ∨ y ∈ Cp.cgo p l) ∧ y.toList = x.toList
  | [], p, h => by cases h
  | y :: l, p, h => by
    simp only [Cp.cgo]
    rcases List.mem_cons.1 h with rfl | h
    · by_cases e : p.toList = x.toList
      · exact ⟨p, .inl rfl, e⟩
      · rw [if_neg e]
        exact ⟨x, .inr (List.mem_cons_self ..), rfl⟩
    · obtain ⟨z, hz, e2⟩ := mem_cgo (p := y) h
      by_cases e : p.toList = y.toList
      · rw [if_pos e]
        rcases hz with rfl | hz
        · exact ⟨p, .inl rfl, e.trans e2⟩
        · exact ⟨z, .inr hz, e2⟩
      · rw [if_neg e]
        rcases hz with rfl | hz
        · exact ⟨z, .inr (List.mem_cons_self ..), e2⟩
        · exact ⟨z, .inr (List.mem_cons_of_mem _ hz), e2⟩
theorem mem_cpt {x : ByteArray} {l : List ByteArray} (h : x ∈ l) : ∃ y ∈ Cp.cpt l, y.toList = x.toList := by
  cases l with
  | nil => cases h
  | cons p l =>
    rcases List.mem_cons.1 h with rfl | h
    · exact ⟨x, List.mem_cons_self .., rfl⟩
    · obtain ⟨y, hy, e⟩ := mem_cgo (p := p) h
      rcases hy with rfl | hy
      · exact ⟨y, List.mem_cons_self .., e⟩
      · exact ⟨y, List.mem_cons_of_mem _ hy, e⟩
theorem mem_srt {x : ByteArray} {l : List ByteArray} : x ∈ Srt.srt l ↔ x ∈ l := by
  unfold Srt.srt
  simp only [List.mem_map, List.mem_mergeSort]
  constructor
  · rintro ⟨b, ⟨s, hs, rfl⟩, rfl⟩
    exact hs
  · intro h
    exact ⟨x.data.toList, ⟨x, h, rfl⟩, rfl⟩
theorem mem_keysOf {x : ByteArray} {l : List ByteArray} (h : x ∈ l) : ∃ y ∈ keysOf l, y.toList = x.toList := mem_cpt (mem_srt.2 h)
theorem clash_mine {lv : Int} {rk : List ByteArray} {rr : List S65} {mine ks : List ByteArray} {x y : ByteArray} (hx : x ∈ mine) (hy : y ∈ ks) (e : y.toList = x.toList) : clash lv rk rr mine ks = true := by
  unfold clash
  rw [List.any_eq_true]
  refine ⟨y, hy, ?_⟩
  unfold hitB
  rw [show mine.any (eqB y) = true from List.any_eq_true.2 ⟨x, hx, decide_eq_true e⟩, Bool.true_or]
theorem info9b : (Try.prog.info? 9).map (fun i => (i.zero, i.size, i.bytes)) = some (some (.string ⟨#[]⟩), 1, 16) := by kernel_rfl
theorem RdS (w : World) (s : ByteArray) : Kd.C Kd.string (w.alloc (.cells #[.string s] 9)) (some ⟨w.heap.size, 0, none⟩) [s].length [s] := newS w s
set_option maxHeartbeats 8000000 in
set_option maxRecDepth 100000 in
theorem first_bad (w : World) (key : ByteArray) (ts : Int) (A : Option Addr) (n c : Nat) (hb : ts < 0 ∨ 1099511627776 ≤ ts) : Calls Try.prog 4 #[.string key, .int .i64 ts, .slice A n c] w fun e w' => e = .returned (.bool true) ∧ Below w.heap.size w w' := by
  by_cases h1 : ts < 0
  · have d1 : decide (ts < 0) = true := decide_eq_true h1
    clear hb h1
    go_enter Try.func4, Try.ntmps4
    go_wp2_with (first | (go_at_call 13; refine (new_calls _).mono ?_; rintro e w' ⟨rfl, rfl⟩) | (go_at_call 11; refine (live_calls _).mono ?_; rintro e w' ⟨rfl, hb⟩))
    go_ret
    exact ⟨rfl, (al w _).trans (hb.mono (al w _).size)⟩
  · have d1 : decide (ts < 0) = false := decide_eq_false h1
    have d2 : decide (1099511627776 ≤ ts) = true := decide_eq_true (by omega)
    clear hb h1
    go_enter Try.func4, Try.ntmps4
    go_wp2_with (first | (go_at_call 13; refine (new_calls _).mono ?_; rintro e w' ⟨rfl, rfl⟩) | (go_at_call 11; refine (live_calls _).mono ?_; rintro e w' ⟨rfl, hb⟩))
    go_ret
    exact ⟨rfl, (al w _).trans (hb.mono (al w _).size)⟩
theorem check_is {w0 w : World} {L : List (Nat × Asn)} {i : Nat} {K : Option Addr} {cK : Nat} {rk : List ByteArray} {R : Option Addr} {cR : Nat} {rr : List S65} {M : Option Addr} {cM : Nat} {mine : List ByteArray} {b : Nat} {s : V} (H : Hp w0 w L) (p : Nat) (hi : L[p]? = some (i, isV b s)) (snap lv r : Int) (h : Rd w K cK rk R cR rr M cM mine) (e : chk s.fl s.l snap lv rk rr mine = r) :
    Calls Try.prog 12 #[.pointer (some ⟨b, 0, none⟩), .int .i64 snap, .int .i64 lv, .agg #[.slice K rk.length cK, .slice R rr.length cR], .slice M mine.length cM] w fun e w' => e = .returned (.int .i64 r) ∧ Hp w0 w' L := by
  rw [← e]
  exact check_hp H p hi snap lv h
theorem chk_a (ts : Int) (h : 0 ≤ ts) (key : ByteArray) : chk 0 [] ts 1 [] [] [key] = 0 := by
  unfold chk
  rw [if_neg (by omega), if_neg (by omega)]
  rfl
theorem chk_b (ts : Int) (h : 0 ≤ ts) (key : ByteArray) (more : List ByteArray) : chk 0 [⟨ts + 1, keysOf (key :: more)⟩] ts 1 [] [] [key] = 230 := by
  unfold chk
  rw [if_neg (by omega), if_neg (by omega)]
  have h1 : ckl ts 1 [] [] [key] [⟨ts + 1, keysOf (key :: more)⟩] 1 = true := by
    obtain ⟨y, hy, e⟩ := mem_keysOf (x := key) (l := key :: more) (List.mem_cons_self ..)
    show (if (rd_T67 [⟨ts + 1, keysOf (key :: more)⟩] (0 : Nat)).f0 ≤ ts then false else if clash 1 [] [] [key] (rd_T67 [⟨ts + 1, keysOf (key :: more)⟩] (0 : Nat)).f1 = true then true else false) = true
    rw [show rd_T67 [⟨ts + 1, keysOf (key :: more)⟩] ((0 : Nat) : Int) = ⟨ts + 1, keysOf (key :: more)⟩ from rfl, if_neg (by show ¬ ts + 1 ≤ ts; omega), if_pos (clash_mine (List.mem_singleton.2 rfl) hy e)]
  show c230 (ckl ts 1 [] [] [key] [⟨ts + 1, keysOf (key :: more)⟩] 1) = 230
  rw [h1]
  rfl
theorem chk_c (ts : Int) (h : 0 ≤ ts) (key : ByteArray) (ks : List ByteArray) : chk 0 [⟨ts + 1, ks⟩] (ts + 1) 2 [key] [] [key] = 0 := by
  unfold chk
  rw [if_neg (by omega), if_neg (by omega)]
  have h1 : ckl (ts + 1) 2 [key] [] [key] [⟨ts + 1, ks⟩] 1 = false := by
    show (if (rd_T67 [⟨ts + 1, ks⟩] (0 : Nat)).f0 ≤ ts + 1 then false else if clash 2 [key] [] [key] (rd_T67 [⟨ts + 1, ks⟩] (0 : Nat)).f1 = true then true else false) = false
    rw [show rd_T67 [⟨ts + 1, ks⟩] ((0 : Nat) : Int) = ⟨ts + 1, ks⟩ from rfl, if_pos (Int.le_refl _)]
  show c230 (ckl (ts + 1) 2 [key] [] [key] [⟨ts + 1, ks⟩] 1) = 0
  rw [h1]
  rfl
set_option maxHeartbeats 8000000 in
set_option maxRecDepth 100000 in
theorem first_go (w : World) (key : ByteArray) (ts : Int) (A : Option Addr) (c : Nat) (more : List ByteArray) (hC : Kd.C Kd.string w A more.length more) (hc : more.length ≤ c) (h0 : 0 ≤ ts) (h1 : ts < 1099511627776) (hl : more.length * 16 ≤ 140737488351232) :
    Calls Try.prog 4 #[.string key, .int .i64 ts, .slice A more.length c] w fun e w' => e = .returned (.bool true) ∧ Below w.heap.size w w' := by
  have HS := Aside0.mk ((Hp.start w).came Kd.heap_string 0 rfl hC)
  have d1 : decide (ts < 0) = false := decide_eq_false (by omega)
  have d2 : decide (1099511627776 ≤ ts) = false := decide_eq_false (by omega)
  have HL := Aside0.mk hl
  have HA := Aside0.mk (chk_a ts h0 key)
  have HB := Aside0.mk (chk_b ts h0 key more)
  have HC := Aside0.mk (chk_c ts h0 key (keysOf (key :: more)))
  have HD : Aside0 (addV ⟨[], 0, 0⟩ (ts + 1) ([key] ++ more) = (0, ⟨[⟨ts + 1, keysOf (key :: more)⟩], 0, ts + 1⟩)) := ⟨by
    unfold addV
    rw [if_neg (by show ¬ (ts + 1 ≤ 0 ∨ ts + 1 ≤ 0 ∨ 1099511627776 < ts + 1); omega), if_neg (by show ¬ 4096 ≤ 0; omega)]
    rfl⟩
  clear hl hC
  go_enter Try.func4, Try.ntmps4
  go_wp2_with (first
    | (go_at_call 13; refine (newV HS.out 1 rfl).mono ?_; rintro e w1 ⟨b, rfl, H1⟩)
    | (go_at_call 11; refine (live_calls _).mono ?_; rintro e w2 ⟨rfl, hb2⟩; have H2 := H1.same hb2; clear hb2 H1)
    | (go_at_call 12; refine (check_is (H2.same (al0 w2 _)) 2 rfl ts 1 0 (K := none) (cK := 0) (rk := []) (R := none) (cR := 0) (rr := []) (M := some ⟨w2.heap.size, 0, none⟩) (cM := 1) (mine := [key]) ⟨Kd.C_nil _ _, Nat.le_refl _, Kd.C_nil _ _, Nat.le_refl _, RdS w2 key, Nat.le_refl _⟩ HA.out).mono ?_; rintro e w3 ⟨rfl, H3⟩; clear H2)
    | ((with_reducible refine gate_dst (N := 40) rfl ?_); (try (refine gate_guard (by rfl) ?_; dsimp only)); refine Hp.at_lit Kd.string H3 5 9 ?hg (N := 40) ?hd (xs := [key]) (inner := [.string key]) ?hr ?hp (by simp) ?_; (case hd => rfl); (case hg => rfl); (case hr => first | (go_simp; done) | (go_simp; rfl)); (case hp => exact fun _ => Kd.reps_scalar (enc := Value.string) [key]); intro A4 c4 w4 hc4 H4)
    | ((with_reducible refine gate_builtin (b := .append) (xs := #[.tmp 40, .tmp 41]) rfl ?_); (try (refine gate_guard (by rfl) ?_; dsimp only)); (try at_builtin); refine Hp.at_append_rows Kd.string H4 3 rfl (.tmp 40) (.tmp 41) 23 9 (.string ⟨#[]⟩) 16 rfl Try.underlying23 info9b rfl (by decide) (by omega) _ [key] more A more.length c rfl rfl ?hs ?hx (H4.reads 1 rfl) (fun _ _ h => h) (by have := HL.out; show (1 + more.length) * 16 ≤ _; omega) ?_; (case hs => rfl); (case hx => rfl); intro v5 w5 H5; obtain ⟨A5, c5, rfl⟩ := H5.fact 3 rfl (fun _ h => Kd.R_slice h); have hcc5 := (H5.row_C 3 rfl).2.1)
    | (go_at_call 14; refine (H5.call (add_tr b ⟨[], 0, 0⟩ (ts + 1) A5 c5 ([key] ++ more) hcc5 (by have := HL.out; simp; omega)) 2 rfl rfl (fun lab h => (Asn.rd Kd.string A5 _ ([key] ++ more)).mono (row_rd (h.get (p := 3) rfl)) (fun k _ hk => by omega))).mono ?_; rintro e w6 ⟨r6, rfl, H6⟩; rw [HD.out] at H6; obtain rfl := H6.fact 2 rfl (fun _ h => h.1); have H7 := (H6.imp (A' := isV b ⟨[⟨ts + 1, keysOf (key :: more)⟩], 0, ts + 1⟩) 2 rfl (fun _ h => h.2)).keep [0, 2])
    | (go_at_call 12; refine (check_is (H7.same (al0 w6 _)) 1 rfl ts 1 230 (K := none) (cK := 0) (rk := []) (R := none) (cR := 0) (rr := []) (M := some ⟨w6.heap.size, 0, none⟩) (cM := 1) (mine := [key]) ⟨Kd.C_nil _ _, Nat.le_refl _, Kd.C_nil _ _, Nat.le_refl _, RdS w6 key, Nat.le_refl _⟩ HB.out).mono ?_; rintro e w7 ⟨rfl, H8⟩; clear H7)
    | (go_at_call 12; refine (check_is (s := ⟨[⟨ts + 1, keysOf (key :: more)⟩], 0, ts + 1⟩) ((H8.same (al0 w7 (.cells #[.string key] 9))).same (al0 _ (.cells #[.string key] 9))) 1 rfl (ts + 1) 2 0 (K := some ⟨w7.heap.size, 0, none⟩) (cK := 1) (rk := [key]) (R := none) (cR := 0) (rr := []) (M := some ⟨w7.heap.size + 1, 0, none⟩) (cM := 1) (mine := [key]) ⟨Kd.C_below (RdS w7 key) (al0 _ _), Nat.le_refl _, Kd.C_nil _ _, Nat.le_refl _, by have := RdS (w7.alloc (.cells #[.string key] 9)) key; rwa [World.size_alloc] at this, Nat.le_refl _⟩ HC.out).mono ?_; rintro e w9 ⟨rfl, H9⟩))
  go_ret
  exact ⟨rfl, H9.below 0 rfl (fun _ h => h)⟩
theorem ValidFirst : cressetlaw23_ValidFirst.Pure := by
  intro key ts A c more w hC hc _ hts hm
  by_cases h : ts < 0 ∨ 1099511627776 ≤ ts
  · exact first_bad w key ts A more.length c h
  · exact first_go w key ts A c more hC hc (by omega) (by omega) hm.2.1
end Go.Proofs.Ytgbmlkoblcfceaa.Vd

set_option linter.unusedVariables false
set_option linter.unusedSimpArgs false
namespace Go.Proofs.Ytgbmlkoblcfceaa.Vd
open Go.RowKit Go.Proofs.Ytgbmlkoblcfceaa.B Go.Proofs.YtgbmlkoblcfceaaW.PrintWords Go.Proofs.YtgbmlkoblcfceaaW.PrintLast Go.Proofs.YtgbmlkoblcfceaaW.PrintMore Go.Proofs.YtgbmlkoblcfceaaW.Mine Go.Proofs.YtgbmlkoblcfceaaW.Hp
set_option maxHeartbeats 2000000 in
set_option maxRecDepth 100000 in
theorem clone67 (okp : Nat → Prop) (A0 : Option Addr) (c0 : Nat) (l0 : List S67) (w : World) (hr0 : ReadsRow (k67.M w 0 okp) k67.sz w A0 l0.length l0) (hok : ∀ k, okp k → k < w.heap.size) (hl : l0.length < 4398046511104) :
    Calls Try.prog 38 #[.slice A0 l0.length c0] w fun e w' => ∃ v0_ : Value, e = .returned v0_ ∧ k67.R 67 w' 0 (fun k => okp k ∨ w.heap.size ≤ k) v0_ l0 ∧ Below w.heap.size w w' := by
  have HR0 := Aside0.mk hr0
  have LM1 := Aside0.mk hl
  have HK := Aside0.mk hok
  clear hr0 hl hok
  have HB := Aside0.mk (Below.refl w.heap.size w)
  have hnil := fun (a : Option Addr) (m c : Nat) (W : World) => Go.Lib.run_eql_slice_nil (P := Try.prog) W 59 67 a m c 0 0 Try.underlying59
  cases A0 with
  | none =>
    have h0 : l0 = [] := by
      rcases Nat.eq_zero_or_pos l0.length with h0 | h0
      · exact List.eq_nil_of_length_eq_zero h0
      · obtain ⟨ad, e1, _⟩ := HR0.out.2.2 h0
        cases e1
    subst h0
    go_enter Try.func38, Try.ntmps38
    go_wp2
    go_ret
    exact ⟨_, rfl, Kd.R_nil _ _ _ _ _, HB.out⟩
  | some ad =>
    go_enter Try.func38, Try.ntmps38
    go_wp2_with (first
      | ((with_reducible refine gate_dst (N := 5) rfl ?_); (try (refine gate_guard (by rfl) ?_; dsimp only)); refine Kd.R_lit k67 (w0 := w) 0 67 ?hg (N := 5) ?hd (xs := ([] : List S67)) (inner := []) (ok := fun k => okp k ∨ w.heap.size ≤ k) (okp := fun _ => False) ?hr ?hp (fun _ hk => hk.elim) ?hz ((Hp.start w).old0) (Nat.zero_le _) (by simp) ?_; (case hd => rfl); (case hg => rfl); (case hr => first | (go_simp; done) | (go_simp; rfl)); (case hp => exact (Reps.none _ _)); (case hz => exact .inr (Nat.le_refl _)); intro v1 w1 ho1 hb hg_ hnew_; have n0_ := Aside0.mk ho1; have n1_ := Aside0.mk ((Below.refl w.heap.size w).grown hg_ (Nat.le_refl _) (fun k hk => by cases hk)); have n2_ := Aside0.mk (show ∀ k, v1.ownBlock = some k → w.heap.size ≤ k from by obtain ⟨b, e1, e2⟩ := hnew_; intro k hk; rw [e1] at hk; injection hk with hk; omega); clear ho1 hb hg_ hnew_)
      | ((with_reducible refine gate_builtin (b := .append) (xs := #[.tmp 5, .tmp 6]) rfl ?_); at_builtin; refine Kd.R_append_rows k67 (w0 := w1) 0 rfl (.tmp 5) (.tmp 6) 59 67 (.agg #[.int .i64 0, .slice none 0 0]) 32 rfl Try.underlying59 info67b rfl (by decide) (by omega) v1 [] l0 (some ad) l0.length c0 (fun k => okp k ∨ w.heap.size ≤ k) okp rfl rfl n0_.out (HR0.out.imp_ n1_.out (fun _ _ hp => k67.M_move (fun k hk => n1_.out.block k (HK.out k hk)) hp)) (fun _ _ h => h) (fun k hk => ⟨.inl hk, fun he => by have h1 := n2_.out k he.symm; have h2 := HK.out k hk; omega⟩) (fun k hk => .inr (Nat.le_trans n1_.out.size hk)) ((Hp.start w1).old0) (Nat.zero_le _) (by have := LM1.out; simp only [List.length_nil]; omega) ?_; intro v2 w2 ho hb hg hat; rw [List.nil_append] at ho; have n3_ := Aside0.mk ho; have n4_ := Aside0.mk (n1_.out.grown hg n1_.out.size n2_.out); clear ho hb hg hat))
    go_ret
    exact ⟨_, by first | rfl | (simp; done), n3_.out, n4_.out⟩
end Go.Proofs.Ytgbmlkoblcfceaa.Vd

/-
Of the row ValidDoes: printed walks and plain laws, merged (wip/claim2.py).
-/
import Derived.Test.YtgbmlkoblcfceaaQValidDoes14
import Derived.WalkMore
import Derived.Deep.Heap
import Derived.RangeFuncRecord
set_option linter.unusedVariables false
set_option linter.unusedSimpArgs false
namespace Go.Proofs.Ytgbmlkoblcfceaa.Vd
open Go.RowKit Go.Proofs.Ytgbmlkoblcfceaa.B Go.Proofs.YtgbmlkoblcfceaaW.PrintWords Go.Proofs.YtgbmlkoblcfceaaW.PrintLast Go.Proofs.YtgbmlkoblcfceaaW.PrintMore Go.Proofs.YtgbmlkoblcfceaaW.Mine Go.Proofs.YtgbmlkoblcfceaaW.Hp
theorem bcc {w W : World} {a : Addr} {v : Value} (hb : Below w.heap.size w W) (hc : w.cell? a = some v) : W.cell? a = some v := (hb.cell (World.block_lt_of_cell? _ _ hc)).trans hc
def ckl (snap lv : Int) (rk : List ByteArray) (rr : List S65) (mine : List ByteArray) (l : List S67) : Nat → Bool
  | 0 => false
  | i + 1 => if (rd_T67 l i).f0 ≤ snap then false else if clash lv rk rr mine (rd_T67 l i).f1 = true then true else ckl snap lv rk rr mine l i
def c230 (b : Bool) : Int := if b = true then 230 else 0
def chk (fl : Int) (l : List S67) (snap lv : Int) (rk : List ByteArray) (rr : List S65) (mine : List ByteArray) : Int :=
  if (lv ≠ 1 ∧ lv ≠ 2) ∨ snap < 0 then 1 else if snap < fl then 230 else c230 (ckl snap lv rk rr mine l l.length)
section
variable {w : World} {K : Option Addr} {cK : Nat} {rk : List ByteArray} {R : Option Addr} {cR : Nat} {rr : List S65} {M : Option Addr} {cM : Nat} {mine : List ByteArray}
theorem al0 (w : World) (o : Obj) : Below w.heap.size w (w.alloc o) := (Below.refl _ _).alloc (Nat.le_refl _) _
theorem vbal {b : Nat} {v : Value} {f l : Int} {w : World} (h : vb b v f l w) (o : Obj) : vb b v f l (w.alloc o) := h.below h.lt (al0 _ _)
set_option maxHeartbeats 4000000 in
set_option maxRecDepth 100000 in
theorem check_arg (b : Nat) (v : Value) (fl la snap lv : Int) (hv : vb b v fl la w) (hbad : (lv ≠ 1 ∧ lv ≠ 2) ∨ snap < 0) (n1 n2 n3 : Nat) :
    Calls Try.prog 12 #[.pointer (some ⟨b, 0, none⟩), .int .i64 snap, .int .i64 lv, .agg #[.slice K n1 cK, .slice R n2 cR], .slice M n3 cM] w fun e w' => e = .returned (.int .i64 1) ∧ Below w.heap.size w w' := by
  have hb := al0 w (.cells #[.slice K n1 cK, .slice R n2 cR] 26)
  have AZ : Aside0 ((w.alloc (.cells #[.slice K n1 cK, .slice R n2 cR] 26)).cell? ⟨b, 0, none⟩ = some (.bool true)) := Aside0.mk (vbal hv _).c0
  by_cases h1 : lv = 1
  · subst h1
    have h2 : decide (snap < 0) = true := decide_eq_true (by omega)
    clear hbad hv
    go_enter Try.func12, Try.ntmps12
    go_wp2
    go_step3
    go_wp2_with (go_at_call 30; refine (none_calls b _ true AZ.out).mono ?_; rintro e w' ⟨rfl, rfl⟩)
    (try rw [Exit.noGoto_ret])
    go_ret
    exact ⟨rfl, hb⟩
  · by_cases h2 : lv = 2
    · subst h2
      have h2 : decide (snap < 0) = true := decide_eq_true (by omega)
      clear hbad hv
      go_enter Try.func12, Try.ntmps12
      go_wp2
      go_step3
      go_wp2_with (go_at_call 30; refine (none_calls b _ true AZ.out).mono ?_; rintro e w' ⟨rfl, rfl⟩)
      (try rw [Exit.noGoto_ret])
      go_ret
      exact ⟨rfl, hb⟩
    · have a1 : (lv == 1) = false := beq_eq_false_iff_ne.mpr h1
      have a2 : (lv != 1) = true := bne_iff_ne.mpr h1
      have a3 : (lv == 2) = false := beq_eq_false_iff_ne.mpr h2
      have a4 : (lv != 2) = true := bne_iff_ne.mpr h2
      clear hbad hv h1 h2
      go_enter Try.func12, Try.ntmps12
      go_wp2
      go_step3
      go_wp2_with (go_at_call 30; refine (none_calls b _ true AZ.out).mono ?_; rintro e w' ⟨rfl, rfl⟩)
      (try rw [Exit.noGoto_ret])
      go_ret
      exact ⟨rfl, hb⟩
set_option maxHeartbeats 4000000 in
set_option maxRecDepth 100000 in
theorem check_old (b : Nat) (v : Value) (fl la snap lv : Int) (hv : vb b v fl la w) (hlv : lv = 1 ∨ lv = 2) (h0 : 0 ≤ snap) (hlt : snap < fl) (n1 n2 n3 : Nat) :
    Calls Try.prog 12 #[.pointer (some ⟨b, 0, none⟩), .int .i64 snap, .int .i64 lv, .agg #[.slice K n1 cK, .slice R n2 cR], .slice M n3 cM] w fun e w' => e = .returned (.int .i64 230) ∧ Below w.heap.size w w' := by
  have hb := al0 w (.cells #[.slice K n1 cK, .slice R n2 cR] 26)
  have AZ : Aside0 ((w.alloc (.cells #[.slice K n1 cK, .slice R n2 cR] 26)).cell? ⟨b, 0, none⟩ = some (.bool true)) := Aside0.mk (vbal hv _).c0
  have AY : Aside0 ((w.alloc (.cells #[.slice K n1 cK, .slice R n2 cR] 26)).cell? ⟨b, 2, none⟩ = some (.int .i64 fl)) := Aside0.mk (vbal hv _).c2
  have h2 : decide (snap < 0) = false := decide_eq_false (by omega)
  have h3 : decide (snap < fl) = true := decide_eq_true hlt
  clear hv h0 hlt
  rcases hlv with rfl | rfl
  all_goals
    go_enter Try.func12, Try.ntmps12
    have q2 := AY.out
    go_wp2
    go_step3
    go_wp2_with (go_at_call 30; refine (none_calls b _ true AZ.out).mono ?_; rintro e w' ⟨rfl, rfl⟩)
    (try rw [Exit.noGoto_ret])
    go_ret
    exact ⟨rfl, hb⟩
set_option maxHeartbeats 8000000 in
set_option maxRecDepth 100000 in
theorem check_go1 (b : Nat) (A : Option Addr) (c : Nat) (l : List S67) (fl la snap : Int) (hv : vb b (.slice A l.length c) fl la w) (hC : Kd.C k67 w A l.length l) (hc : l.length ≤ c) (h : Rd w K cK rk R cR rr M cM mine) (h0 : 0 ≤ snap) (hge : fl ≤ snap) :
    Calls Try.prog 12 #[.pointer (some ⟨b, 0, none⟩), .int .i64 snap, .int .i64 1, .agg #[.slice K rk.length cK, .slice R rr.length cR], .slice M mine.length cM] w fun e w' => e = .returned (.int .i64 (c230 (ckl snap 1 rk rr mine l l.length))) ∧ Below w.heap.size w w' := by
  have hb : Below w.heap.size w (w.alloc (.cells #[.slice K rk.length cK, .slice R rr.length cR] 26)) := (Below.refl _ _).alloc (Nat.le_refl _) _
  have g1 := World.alloc_heap_new w (.cells #[.slice K rk.length cK, .slice R rr.length cR] 26)
  obtain ⟨W, hW⟩ : ∃ W, W = w.alloc (.cells #[.slice K rk.length cK, .slice R rr.length cR] 26) := ⟨_, rfl⟩
  rw [← hW] at hb g1
  have k0 : W.cell? ⟨w.heap.size, 0, none⟩ = some (.slice K rk.length cK) := by simp only [World.cell?, g1]; rfl
  have k1 : W.cell? ⟨w.heap.size, 1, none⟩ = some (.slice R rr.length cR) := by simp only [World.cell?, g1]; rfl
  have hvW := hv.below hv.lt hb
  have z0 := hvW.c0
  have z1 := hvW.c1
  have z2 := hvW.c2
  have hR2 := h.below hb
  have hC2 := Kd.C_below hC hb
  have hmx := Cmax hC
  have h2 : decide (snap < 0) = false := decide_eq_false (by omega)
  have h3 : decide (snap < fl) = false := decide_eq_false (by omega)
  clear h g1 hC hv hvW h0 hge
  have AW := Aside0.mk hW
  clear hW
  have AZ : Aside0 ((w.alloc (.cells #[.slice K rk.length cK, .slice R rr.length cR] 26)).cell? ⟨b, 0, none⟩ = some (.bool true)) := Aside0.mk (AW.out ▸ z0)
  have AY : Aside0 ((w.alloc (.cells #[.slice K rk.length cK, .slice R rr.length cR] 26)).cell? ⟨b, 2, none⟩ = some (.int .i64 fl)) := Aside0.mk (AW.out ▸ z2)
  have AX : Aside0 ((w.alloc (.cells #[.slice K rk.length cK, .slice R rr.length cR] 26)).cell? ⟨b, 1, none⟩ = some (.slice A l.length c)) := Aside0.mk (AW.out ▸ z1)
  go_enter Try.func12, Try.ntmps12
  have q1 := AX.out
  have q2 := AY.out
  go_wp2
  go_step3
  go_wp2_with (go_at_call 30; refine (none_calls b _ true AZ.out).mono ?_; rintro e w' ⟨rfl, rfl⟩)
  go_step3
  go_wp2
  clear q1 q2 AX AY AZ
  rw [← AW.out]
  go_loopw [11] (fun p wr => ∃ i : Int, p = .int .i64 i ∧ -1 ≤ i ∧ i < l.length ∧ Aside0 (ckl snap 1 rk rr mine l (i + 1).toNat = ckl snap 1 rk rr mine l l.length) ∧ Below W.heap.size W wr) (fun p wr => (intOf p + 1).toNat)
  case atStart => exact ⟨(l.length : Int) - 1, rfl, by omega, by omega, ⟨by rw [show ((l.length : Int) - 1 + 1).toNat = l.length by omega]⟩, Below.refl _ _⟩
  case round =>
    obtain ⟨i, rfl, hi1, hi2, HI, hBr⟩ := hrel
    by_cases hi : 0 ≤ i
    · have k0r := bcc hBr k0
      have k1r := bcc hBr k1
      have z1r := bcc hBr z1
      obtain ⟨ad, A1, c1, e1, x0, x1, l1, g1⟩ := at_T67 (Kd.C_below hC2 hBr) i hi hi2
      cases e1
      have hRr := hR2.below hBr
      have HE : Aside0 (ckl snap 1 rk rr mine l (i + 1).toNat = if (rd_T67 l i).f0 ≤ snap then false else if clash 1 rk rr mine (rd_T67 l i).f1 = true then true else ckl snap 1 rk rr mine l i.toNat) := ⟨by
        rw [show (i + 1).toNat = i.toNat + 1 by omega]
        simp only [ckl]
        rw [show rd_T67 l ((i.toNat : Nat) : Int) = rd_T67 l i by rw [Int.toNat_of_nonneg hi]]⟩
      generalize rd_T67 l i = x at x0 x1 l1 g1 HE
      clear k0 k1 z0 z1 z2 hC2 hR2
      by_cases hts : x.f0 ≤ snap
      · have hd : decide (x.f0 ≤ snap) = true := decide_eq_true hts
        have HF : Aside0 (ckl snap 1 rk rr mine l l.length = false) := ⟨by rw [← HI.out, HE.out, if_pos hts]⟩
        clear hts
        go_wp2
        (try rw [Exit.noGoto_ret])
        go_ret
        exact ⟨by rw [HF.out]; rfl, hb.trans (hBr.mono hb.size)⟩
      · have hd : decide (x.f0 ≤ snap) = false := decide_eq_false hts
        have hcl := clash_calls 1 wr.drew (hRr.below (below_drew (Below.refl _ _))) A1 c1 x.f1 (Kd.C_drew g1) l1
        have HN := Aside0.mk hts
        clear hts hRr g1
        cases hq : clash 1 rk rr mine x.f1 with
        | true =>
          rw [hq] at hcl
          have HF : Aside0 (ckl snap 1 rk rr mine l l.length = true) := ⟨by rw [← HI.out, HE.out, if_neg HN.out, if_pos hq]⟩
          clear hq
          go_wp2
          go_region_law (refine goes_ Try.func15 (by kernel_rfl) rfl #[.int .i64 1, .agg #[.slice K rk.length cK, .slice R rr.length cR], .slice M mine.length cM, .slice A1 x.f1.length c1] (by rfl) rfl rfl (by simp only [List.map_toArray, List.map_cons, List.map_nil]; rfl) ?_; refine hcl.mono ?_; rintro e w5 ⟨rfl, hb5⟩; refine ⟨_, rfl, ?_⟩)
          all_goals
            have hB5 : Below W.heap.size W w5 := (below_drew hBr).trans (hb5.mono hBr.size)
            go_wp2
            (try rw [Exit.noGoto_ret])
            go_ret
            exact ⟨by rw [HF.out]; rfl, hb.trans (hB5.mono hb.size)⟩
        | false =>
          rw [hq] at hcl
          have HF : Aside0 (ckl snap 1 rk rr mine l i.toNat = ckl snap 1 rk rr mine l l.length) := ⟨by rw [← HI.out, HE.out, if_neg HN.out, if_neg (by rw [hq]; decide)]⟩
          clear hq
          go_wp2
          go_region_law (refine goes_ Try.func15 (by kernel_rfl) rfl #[.int .i64 1, .agg #[.slice K rk.length cK, .slice R rr.length cR], .slice M mine.length cM, .slice A1 x.f1.length c1] (by rfl) rfl rfl (by simp only [List.map_toArray, List.map_cons, List.map_nil]; rfl) ?_; refine hcl.mono ?_; rintro e w5 ⟨rfl, hb5⟩; refine ⟨_, rfl, ?_⟩)
          all_goals
            have hB5 : Below W.heap.size W w5 := (below_drew hBr).trans (hb5.mono hBr.size)
            go_wp2
            go_roundw
            case rel => exact ⟨i - 1, rfl, by omega, by omega, ⟨by rw [show i - 1 + 1 = i by omega]; exact HF.out⟩, hB5⟩
            case measure => simp [intOf]; omega
    · have hd : decide (0 ≤ i) = false := decide_eq_false hi
      have e0 : (i + 1).toNat = 0 := by omega
      have HF : Aside0 (ckl snap 1 rk rr mine l l.length = false) := ⟨by rw [← HI.out, e0]; rfl⟩
      clear e0
      go_wp2
      (try rw [Exit.noGoto_ret])
      go_ret
      exact ⟨by rw [HF.out]; rfl, hb.trans (hBr.mono hb.size)⟩
set_option maxHeartbeats 8000000 in
set_option maxRecDepth 100000 in
theorem check_go2 (b : Nat) (A : Option Addr) (c : Nat) (l : List S67) (fl la snap : Int) (hv : vb b (.slice A l.length c) fl la w) (hC : Kd.C k67 w A l.length l) (hc : l.length ≤ c) (h : Rd w K cK rk R cR rr M cM mine) (h0 : 0 ≤ snap) (hge : fl ≤ snap) :
    Calls Try.prog 12 #[.pointer (some ⟨b, 0, none⟩), .int .i64 snap, .int .i64 2, .agg #[.slice K rk.length cK, .slice R rr.length cR], .slice M mine.length cM] w fun e w' => e = .returned (.int .i64 (c230 (ckl snap 2 rk rr mine l l.length))) ∧ Below w.heap.size w w' := by
  have hb : Below w.heap.size w (w.alloc (.cells #[.slice K rk.length cK, .slice R rr.length cR] 26)) := (Below.refl _ _).alloc (Nat.le_refl _) _
  have g1 := World.alloc_heap_new w (.cells #[.slice K rk.length cK, .slice R rr.length cR] 26)
  obtain ⟨W, hW⟩ : ∃ W, W = w.alloc (.cells #[.slice K rk.length cK, .slice R rr.length cR] 26) := ⟨_, rfl⟩
  rw [← hW] at hb g1
  have k0 : W.cell? ⟨w.heap.size, 0, none⟩ = some (.slice K rk.length cK) := by simp only [World.cell?, g1]; rfl
  have k1 : W.cell? ⟨w.heap.size, 1, none⟩ = some (.slice R rr.length cR) := by simp only [World.cell?, g1]; rfl
  have hvW := hv.below hv.lt hb
  have z0 := hvW.c0
  have z1 := hvW.c1
  have z2 := hvW.c2
  have hR2 := h.below hb
  have hC2 := Kd.C_below hC hb
  have hmx := Cmax hC
  have h2 : decide (snap < 0) = false := decide_eq_false (by omega)
  have h3 : decide (snap < fl) = false := decide_eq_false (by omega)
  clear h g1 hC hv hvW h0 hge
  have AW := Aside0.mk hW
  clear hW
  have AZ : Aside0 ((w.alloc (.cells #[.slice K rk.length cK, .slice R rr.length cR] 26)).cell? ⟨b, 0, none⟩ = some (.bool true)) := Aside0.mk (AW.out ▸ z0)
  have AY : Aside0 ((w.alloc (.cells #[.slice K rk.length cK, .slice R rr.length cR] 26)).cell? ⟨b, 2, none⟩ = some (.int .i64 fl)) := Aside0.mk (AW.out ▸ z2)
  have AX : Aside0 ((w.alloc (.cells #[.slice K rk.length cK, .slice R rr.length cR] 26)).cell? ⟨b, 1, none⟩ = some (.slice A l.length c)) := Aside0.mk (AW.out ▸ z1)
  go_enter Try.func12, Try.ntmps12
  have q1 := AX.out
  have q2 := AY.out
  go_wp2
  go_step3
  go_wp2_with (go_at_call 30; refine (none_calls b _ true AZ.out).mono ?_; rintro e w' ⟨rfl, rfl⟩)
  go_step3
  go_wp2
  clear q1 q2 AX AY AZ
  rw [← AW.out]
  go_loopw [11] (fun p wr => ∃ i : Int, p = .int .i64 i ∧ -1 ≤ i ∧ i < l.length ∧ Aside0 (ckl snap 2 rk rr mine l (i + 1).toNat = ckl snap 2 rk rr mine l l.length) ∧ Below W.heap.size W wr) (fun p wr => (intOf p + 1).toNat)
  case atStart => exact ⟨(l.length : Int) - 1, rfl, by omega, by omega, ⟨by rw [show ((l.length : Int) - 1 + 1).toNat = l.length by omega]⟩, Below.refl _ _⟩
  case round =>
    obtain ⟨i, rfl, hi1, hi2, HI, hBr⟩ := hrel
    by_cases hi : 0 ≤ i
    · have k0r := bcc hBr k0
      have k1r := bcc hBr k1
      have z1r := bcc hBr z1
      obtain ⟨ad, A1, c1, e1, x0, x1, l1, g1⟩ := at_T67 (Kd.C_below hC2 hBr) i hi hi2
      cases e1
      have hRr := hR2.below hBr
      have HE : Aside0 (ckl snap 2 rk rr mine l (i + 1).toNat = if (rd_T67 l i).f0 ≤ snap then false else if clash 2 rk rr mine (rd_T67 l i).f1 = true then true else ckl snap 2 rk rr mine l i.toNat) := ⟨by
        rw [show (i + 1).toNat = i.toNat + 1 by omega]
        simp only [ckl]
        rw [show rd_T67 l ((i.toNat : Nat) : Int) = rd_T67 l i by rw [Int.toNat_of_nonneg hi]]⟩
      generalize rd_T67 l i = x at x0 x1 l1 g1 HE
      clear k0 k1 z0 z1 z2 hC2 hR2
      by_cases hts : x.f0 ≤ snap
      · have hd : decide (x.f0 ≤ snap) = true := decide_eq_true hts
        have HF : Aside0 (ckl snap 2 rk rr mine l l.length = false) := ⟨by rw [← HI.out, HE.out, if_pos hts]⟩
        clear hts
        go_wp2
        (try rw [Exit.noGoto_ret])
        go_ret
        exact ⟨by rw [HF.out]; rfl, hb.trans (hBr.mono hb.size)⟩
      · have hd : decide (x.f0 ≤ snap) = false := decide_eq_false hts
        have hcl := clash_calls 2 wr.drew (hRr.below (below_drew (Below.refl _ _))) A1 c1 x.f1 (Kd.C_drew g1) l1
        have HN := Aside0.mk hts
        clear hts hRr g1
        cases hq : clash 2 rk rr mine x.f1 with
        | true =>
          rw [hq] at hcl
          have HF : Aside0 (ckl snap 2 rk rr mine l l.length = true) := ⟨by rw [← HI.out, HE.out, if_neg HN.out, if_pos hq]⟩
          clear hq
          go_wp2
          go_region_law (refine goes_ Try.func15 (by kernel_rfl) rfl #[.int .i64 2, .agg #[.slice K rk.length cK, .slice R rr.length cR], .slice M mine.length cM, .slice A1 x.f1.length c1] (by rfl) rfl rfl (by simp only [List.map_toArray, List.map_cons, List.map_nil]; rfl) ?_; refine hcl.mono ?_; rintro e w5 ⟨rfl, hb5⟩; refine ⟨_, rfl, ?_⟩)
          all_goals
            have hB5 : Below W.heap.size W w5 := (below_drew hBr).trans (hb5.mono hBr.size)
            go_wp2
            (try rw [Exit.noGoto_ret])
            go_ret
            exact ⟨by rw [HF.out]; rfl, hb.trans (hB5.mono hb.size)⟩
        | false =>
          rw [hq] at hcl
          have HF : Aside0 (ckl snap 2 rk rr mine l i.toNat = ckl snap 2 rk rr mine l l.length) := ⟨by rw [← HI.out, HE.out, if_neg HN.out, if_neg (by rw [hq]; decide)]⟩
          clear hq
          go_wp2
          go_region_law (refine goes_ Try.func15 (by kernel_rfl) rfl #[.int .i64 2, .agg #[.slice K rk.length cK, .slice R rr.length cR], .slice M mine.length cM, .slice A1 x.f1.length c1] (by rfl) rfl rfl (by simp only [List.map_toArray, List.map_cons, List.map_nil]; rfl) ?_; refine hcl.mono ?_; rintro e w5 ⟨rfl, hb5⟩; refine ⟨_, rfl, ?_⟩)
          all_goals
            have hB5 : Below W.heap.size W w5 := (below_drew hBr).trans (hb5.mono hBr.size)
            go_wp2
            go_roundw
            case rel => exact ⟨i - 1, rfl, by omega, by omega, ⟨by rw [show i - 1 + 1 = i by omega]; exact HF.out⟩, hB5⟩
            case measure => simp [intOf]; omega
    · have hd : decide (0 ≤ i) = false := decide_eq_false hi
      have e0 : (i + 1).toNat = 0 := by omega
      have HF : Aside0 (ckl snap 2 rk rr mine l l.length = false) := ⟨by rw [← HI.out, e0]; rfl⟩
      clear e0
      go_wp2
      (try rw [Exit.noGoto_ret])
      go_ret
      exact ⟨by rw [HF.out]; rfl, hb.trans (hBr.mono hb.size)⟩
theorem check_calls (b : Nat) (A : Option Addr) (c : Nat) (l : List S67) (fl la snap lv : Int) (hv : vb b (.slice A l.length c) fl la w) (hC : Kd.C k67 w A l.length l) (hc : l.length ≤ c) (h : Rd w K cK rk R cR rr M cM mine) :
    Calls Try.prog 12 #[.pointer (some ⟨b, 0, none⟩), .int .i64 snap, .int .i64 lv, .agg #[.slice K rk.length cK, .slice R rr.length cR], .slice M mine.length cM] w fun e w' => e = .returned (.int .i64 (chk fl l snap lv rk rr mine)) ∧ Below w.heap.size w w' := by
  unfold chk
  by_cases h1 : (lv ≠ 1 ∧ lv ≠ 2) ∨ snap < 0
  · rw [if_pos h1]
    exact check_arg b _ fl la snap lv hv h1 _ _ _
  · rw [if_neg h1]
    by_cases h2 : snap < fl
    · rw [if_pos h2]
      exact check_old b _ fl la snap lv hv (by omega) (by omega) h2 _ _ _
    · rw [if_neg h2]
      have h3 : lv = 1 ∨ lv = 2 := by omega
      rcases h3 with rfl | rfl
      · exact check_go1 b A c l fl la snap hv hC hc h (by omega) (by omega)
      · exact check_go2 b A c l fl la snap hv hC hc h (by omega) (by omega)
end
end Go.Proofs.Ytgbmlkoblcfceaa.Vd

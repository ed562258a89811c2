/-
Of the row ValidDoes: printed walks and plain laws, merged (wip/claim2.py).
-/
import Derived.Test.YtgbmlkoblcfceaaQValidDoes11
import Derived.WalkMore
set_option linter.unusedVariables false
set_option linter.unusedSimpArgs false
namespace Go.Proofs.Ytgbmlkoblcfceaa.Vd
open Go.RowKit Go.Proofs.Ytgbmlkoblcfceaa.B Go.Proofs.YtgbmlkoblcfceaaW.PrintWords Go.Proofs.YtgbmlkoblcfceaaW.PrintLast Go.Proofs.YtgbmlkoblcfceaaW.PrintMore Go.Proofs.YtgbmlkoblcfceaaW.Mine Go.Proofs.YtgbmlkoblcfceaaW.Hp
theorem com1 {w : World} {A : Option Addr} (hC : Kd.C k67 w A 1 [⟨5, [⟨#[97]⟩]⟩]) : ∃ ad A1 c1, A = some ad ∧ w.cell? ad = some (.int .i64 5) ∧ w.cell? ⟨ad.block, ad.off + 1, none⟩ = some (.slice A1 1 c1) ∧ Kd.C Kd.string w A1 1 [⟨#[97]⟩] := by
  obtain ⟨ad, h1, hc⟩ := hC.2.2 (by omega)
  obtain ⟨cs, _, hk, hcell⟩ := hc 0 _ rfl
  obtain ⟨A1, c1, rfl, _, hs⟩ := k67_open hk
  have e0 := hcell 0 _ rfl
  have e1 := hcell 1 _ rfl
  rw [show 0 * k67.sz + 0 = 0 by simp, Addr.add_zero'] at e0
  rw [show 0 * k67.sz + 1 = 1 by simp] at e1
  refine ⟨ad, A1, c1, h1, e0, ?_, hs⟩
  obtain ⟨bl, of, fr⟩ := ad
  exact e1
set_option maxHeartbeats 8000000 in
set_option maxRecDepth 100000 in
theorem check1 (b : Nat) (w : World) (A : Option Addr) (c : Nat) (R : Option Addr) (cR : Nat) (M : Option Addr) (cM : Nat) (hv : vb b (.slice A 1 c) 0 5 w) (hC : Kd.C k67 w A 1 [⟨5, [⟨#[97]⟩]⟩]) (hc : 1 ≤ c)
    (hR : Kd.C k65 w R 1 [⟨⟨#[]⟩, ⟨#[98]⟩⟩]) (hcR : 1 ≤ cR) (hM : Kd.C Kd.string w M 1 [⟨#[97]⟩]) (hcM : 1 ≤ cM) :
    Calls Try.prog 12 #[.pointer (some ⟨b, 0, none⟩), .int .i64 4, .int .i64 1, .agg #[.slice none 0 0, .slice R 1 cR], .slice M 1 cM] w fun e w' => e = .returned (.int .i64 230) ∧ Below w.heap.size w w' := by
  obtain ⟨ad, A1, c1, rfl, x0, x1, hs⟩ := com1 hC
  have hb : Below w.heap.size w (w.alloc (.cells #[.slice none 0 0, .slice R 1 cR] 26)) := (Below.refl _ _).alloc (Nat.le_refl _) _
  have g1 := World.alloc_heap_new w (.cells #[.slice none 0 0, .slice R 1 cR] 26)
  obtain ⟨W, hW⟩ : ∃ W, W = w.alloc (.cells #[.slice none 0 0, .slice R 1 cR] 26) := ⟨_, rfl⟩
  rw [← hW] at hb g1
  have k0 : W.cell? ⟨w.heap.size, 0, none⟩ = some (.slice none 0 0) := by simp only [World.cell?, g1]; rfl
  have k1 : W.cell? ⟨w.heap.size, 1, none⟩ = some (.slice R 1 cR) := by simp only [World.cell?, g1]; rfl
  have hvW := hv.below hv.lt hb
  have z0 := hvW.c0
  have z1 := hvW.c1
  have z2 := hvW.c2
  replace x0 := bc hb x0
  replace x1 := bc hb x1
  have hR2 := Kd.C_below hR hb
  have hM2 := Kd.C_below hM hb
  have hs2 := Kd.C_below hs hb
  clear hR hM hs g1 hC hv hvW
  have AW := Aside0.mk hW
  clear hW
  have AZ : Aside0 ((w.alloc (.cells #[.slice none 0 0, .slice R 1 cR] 26)).cell? ⟨b, 0, none⟩ = some (.bool true)) := Aside0.mk (AW.out ▸ z0)
  have AY : Aside0 ((w.alloc (.cells #[.slice none 0 0, .slice R 1 cR] 26)).cell? ⟨b, 2, none⟩ = some (.int .i64 0)) := Aside0.mk (AW.out ▸ z2)
  have AX : Aside0 ((w.alloc (.cells #[.slice none 0 0, .slice R 1 cR] 26)).cell? ⟨b, 1, none⟩ = some (.slice (some ad) 1 c)) := Aside0.mk (AW.out ▸ z1)
  go_enter Try.func12, Try.ntmps12
  have q1 := AX.out
  have q2 := AY.out
  go_wp2
  go_step3
  go_wp2_with (go_at_call 30; refine (none_calls b _ true AZ.out).mono ?_; rintro e w' ⟨rfl, rfl⟩)
  go_step3
  go_wp2
  clear q1 q2 AX AY AZ
  rw [← AW.out]
  go_loopw [11] (fun p wr => ∃ i : Int, p = .int .i64 i ∧ (i = 0 ∨ (i = -1 ∧ False)) ∧ Below W.heap.size W wr) (fun p wr => (intOf p + 1).toNat)
  case atStart => exact ⟨0, rfl, .inl rfl, Below.refl _ _⟩
  case round =>
    obtain ⟨i, rfl, hi, hBr⟩ := hrel
    rcases hi with rfl | ⟨rfl, hf⟩
    · have k0r := bc hBr k0
      have k1r := bc hBr k1
      have z1r := bc hBr z1
      have x0r := bc hBr x0
      have x1r := bc hBr x1
      have hRr := Kd.C_below hR2 hBr
      have hMr := Kd.C_below hM2 hBr
      have hsr := Kd.C_below hs2 hBr
      clear k0 k1 z0 z1 z2 x0 x1 hR2 hM2 hs2
      go_wp2
      have hRd := Kd.C_drew hRr
      have hMd := Kd.C_drew hMr
      have hsd := Kd.C_drew hsr
      go_region_law (refine goes_ Try.func15 (by kernel_rfl) rfl #[.int .i64 1, .agg #[.slice none 0 0, .slice R 1 cR], .slice M 1 cM, .slice A1 1 c1] (by rfl) rfl rfl (by simp only [List.map_toArray, List.map_cons, List.map_nil]; rfl) ?_; refine (clash1 _ R cR M cM A1 c1 hRd hcR hMd hcM hsd).mono ?_; rintro e w5 ⟨rfl, hb5⟩; refine ⟨_, rfl, ?_⟩)
      all_goals
        have hB5 : Below W.heap.size W w5 := (below_drew hBr).trans (hb5.mono hBr.size)
        go_wp2
        rw [Exit.noGoto_ret]
        go_ret
        exact ⟨rfl, hb.trans (hB5.mono hb.size)⟩
    · exact hf.elim
set_option maxHeartbeats 8000000 in
set_option maxRecDepth 100000 in
theorem check2 (b : Nat) (w : World) (A : Option Addr) (c : Nat) (R : Option Addr) (cR : Nat) (M : Option Addr) (cM : Nat) (hv : vb b (.slice A 1 c) 0 5 w) (hC : Kd.C k67 w A 1 [⟨5, [⟨#[97]⟩]⟩]) (hc : 1 ≤ c)
    (hR : Kd.C k65 w R 1 [⟨⟨#[]⟩, ⟨#[98]⟩⟩]) (hcR : 1 ≤ cR) (hM : Kd.C Kd.string w M 1 [⟨#[97]⟩]) (hcM : 1 ≤ cM) :
    Calls Try.prog 12 #[.pointer (some ⟨b, 0, none⟩), .int .i64 5, .int .i64 2, .agg #[.slice none 0 0, .slice R 1 cR], .slice M 1 cM] w fun e w' => e = .returned (.int .i64 0) ∧ Below w.heap.size w w' := by
  obtain ⟨ad, A1, c1, rfl, x0, x1, hs⟩ := com1 hC
  have hb : Below w.heap.size w (w.alloc (.cells #[.slice none 0 0, .slice R 1 cR] 26)) := (Below.refl _ _).alloc (Nat.le_refl _) _
  have g1 := World.alloc_heap_new w (.cells #[.slice none 0 0, .slice R 1 cR] 26)
  obtain ⟨W, hW⟩ : ∃ W, W = w.alloc (.cells #[.slice none 0 0, .slice R 1 cR] 26) := ⟨_, rfl⟩
  rw [← hW] at hb g1
  have k0 : W.cell? ⟨w.heap.size, 0, none⟩ = some (.slice none 0 0) := by simp only [World.cell?, g1]; rfl
  have k1 : W.cell? ⟨w.heap.size, 1, none⟩ = some (.slice R 1 cR) := by simp only [World.cell?, g1]; rfl
  have hvW := hv.below hv.lt hb
  have z0 := hvW.c0
  have z1 := hvW.c1
  have z2 := hvW.c2
  replace x0 := bc hb x0
  replace x1 := bc hb x1
  have hR2 := Kd.C_below hR hb
  have hM2 := Kd.C_below hM hb
  have hs2 := Kd.C_below hs hb
  clear hR hM hs g1 hC hv hvW
  have AW := Aside0.mk hW
  clear hW
  have AZ : Aside0 ((w.alloc (.cells #[.slice none 0 0, .slice R 1 cR] 26)).cell? ⟨b, 0, none⟩ = some (.bool true)) := Aside0.mk (AW.out ▸ z0)
  have AY : Aside0 ((w.alloc (.cells #[.slice none 0 0, .slice R 1 cR] 26)).cell? ⟨b, 2, none⟩ = some (.int .i64 0)) := Aside0.mk (AW.out ▸ z2)
  have AX : Aside0 ((w.alloc (.cells #[.slice none 0 0, .slice R 1 cR] 26)).cell? ⟨b, 1, none⟩ = some (.slice (some ad) 1 c)) := Aside0.mk (AW.out ▸ z1)
  go_enter Try.func12, Try.ntmps12
  have q1 := AX.out
  have q2 := AY.out
  go_wp2
  go_step3
  go_wp2_with (go_at_call 30; refine (none_calls b _ true AZ.out).mono ?_; rintro e w' ⟨rfl, rfl⟩)
  go_step3
  go_wp2
  clear q1 q2 AX AY AZ
  rw [← AW.out]
  go_loopw [11] (fun p wr => ∃ i : Int, p = .int .i64 i ∧ (i = 0 ∨ (i = -1 ∧ False)) ∧ Below W.heap.size W wr) (fun p wr => (intOf p + 1).toNat)
  case atStart => exact ⟨0, rfl, .inl rfl, Below.refl _ _⟩
  case round =>
    obtain ⟨i, rfl, hi, hBr⟩ := hrel
    rcases hi with rfl | ⟨rfl, hf⟩
    · have k0r := bc hBr k0
      have k1r := bc hBr k1
      have z1r := bc hBr z1
      have x0r := bc hBr x0
      have x1r := bc hBr x1
      have hRr := Kd.C_below hR2 hBr
      have hMr := Kd.C_below hM2 hBr
      have hsr := Kd.C_below hs2 hBr
      clear k0 k1 z0 z1 z2 x0 x1 hR2 hM2 hs2
      go_wp2
      rw [Exit.noGoto_ret]
      go_ret
      exact ⟨rfl, hb.trans (hBr.mono hb.size)⟩
    · exact hf.elim
set_option maxHeartbeats 8000000 in
set_option maxRecDepth 100000 in
theorem check3 (b : Nat) (w : World) (A : Option Addr) (c : Nat) (R : Option Addr) (cR : Nat) (M : Option Addr) (cM : Nat) (hv : vb b (.slice A 1 c) 0 5 w) (hC : Kd.C k67 w A 1 [⟨5, [⟨#[97]⟩]⟩]) (hc : 1 ≤ c)
    (hR : Kd.C k65 w R 1 [⟨⟨#[]⟩, ⟨#[98]⟩⟩]) (hcR : 1 ≤ cR) (hM : Kd.C Kd.string w M 0 []) (hcM : 0 ≤ cM) :
    Calls Try.prog 12 #[.pointer (some ⟨b, 0, none⟩), .int .i64 4, .int .i64 2, .agg #[.slice none 0 0, .slice R 1 cR], .slice M 0 cM] w fun e w' => e = .returned (.int .i64 230) ∧ Below w.heap.size w w' := by
  obtain ⟨ad, A1, c1, rfl, x0, x1, hs⟩ := com1 hC
  have hb : Below w.heap.size w (w.alloc (.cells #[.slice none 0 0, .slice R 1 cR] 26)) := (Below.refl _ _).alloc (Nat.le_refl _) _
  have g1 := World.alloc_heap_new w (.cells #[.slice none 0 0, .slice R 1 cR] 26)
  obtain ⟨W, hW⟩ : ∃ W, W = w.alloc (.cells #[.slice none 0 0, .slice R 1 cR] 26) := ⟨_, rfl⟩
  rw [← hW] at hb g1
  have k0 : W.cell? ⟨w.heap.size, 0, none⟩ = some (.slice none 0 0) := by simp only [World.cell?, g1]; rfl
  have k1 : W.cell? ⟨w.heap.size, 1, none⟩ = some (.slice R 1 cR) := by simp only [World.cell?, g1]; rfl
  have hvW := hv.below hv.lt hb
  have z0 := hvW.c0
  have z1 := hvW.c1
  have z2 := hvW.c2
  replace x0 := bc hb x0
  replace x1 := bc hb x1
  have hR2 := Kd.C_below hR hb
  have hM2 := Kd.C_below hM hb
  have hs2 := Kd.C_below hs hb
  clear hR hM hs g1 hC hv hvW
  have AW := Aside0.mk hW
  clear hW
  have AZ : Aside0 ((w.alloc (.cells #[.slice none 0 0, .slice R 1 cR] 26)).cell? ⟨b, 0, none⟩ = some (.bool true)) := Aside0.mk (AW.out ▸ z0)
  have AY : Aside0 ((w.alloc (.cells #[.slice none 0 0, .slice R 1 cR] 26)).cell? ⟨b, 2, none⟩ = some (.int .i64 0)) := Aside0.mk (AW.out ▸ z2)
  have AX : Aside0 ((w.alloc (.cells #[.slice none 0 0, .slice R 1 cR] 26)).cell? ⟨b, 1, none⟩ = some (.slice (some ad) 1 c)) := Aside0.mk (AW.out ▸ z1)
  go_enter Try.func12, Try.ntmps12
  have q1 := AX.out
  have q2 := AY.out
  go_wp2
  go_step3
  go_wp2_with (go_at_call 30; refine (none_calls b _ true AZ.out).mono ?_; rintro e w' ⟨rfl, rfl⟩)
  go_step3
  go_wp2
  clear q1 q2 AX AY AZ
  rw [← AW.out]
  go_loopw [11] (fun p wr => ∃ i : Int, p = .int .i64 i ∧ (i = 0 ∨ (i = -1 ∧ False)) ∧ Below W.heap.size W wr) (fun p wr => (intOf p + 1).toNat)
  case atStart => exact ⟨0, rfl, .inl rfl, Below.refl _ _⟩
  case round =>
    obtain ⟨i, rfl, hi, hBr⟩ := hrel
    rcases hi with rfl | ⟨rfl, hf⟩
    · have k0r := bc hBr k0
      have k1r := bc hBr k1
      have z1r := bc hBr z1
      have x0r := bc hBr x0
      have x1r := bc hBr x1
      have hRr := Kd.C_below hR2 hBr
      have hMr := Kd.C_below hM2 hBr
      have hsr := Kd.C_below hs2 hBr
      clear k0 k1 z0 z1 z2 x0 x1 hR2 hM2 hs2
      go_wp2
      have hRd := Kd.C_drew hRr
      have hMd := Kd.C_drew hMr
      have hsd := Kd.C_drew hsr
      go_region_law (refine goes_ Try.func15 (by kernel_rfl) rfl #[.int .i64 2, .agg #[.slice none 0 0, .slice R 1 cR], .slice M 0 cM, .slice A1 1 c1] (by rfl) rfl rfl (by simp only [List.map_toArray, List.map_cons, List.map_nil]; rfl) ?_; refine (clash2 _ R cR M cM A1 c1 hRd hcR hMd hcM hsd).mono ?_; rintro e w5 ⟨rfl, hb5⟩; refine ⟨_, rfl, ?_⟩)
      all_goals
        have hB5 : Below W.heap.size W w5 := (below_drew hBr).trans (hb5.mono hBr.size)
        go_wp2
        rw [Exit.noGoto_ret]
        go_ret
        exact ⟨rfl, hb.trans (hB5.mono hb.size)⟩
    · exact hf.elim
set_option maxHeartbeats 8000000 in
set_option maxRecDepth 100000 in
theorem check4 (b : Nat) (w : World) (A : Option Addr) (c : Nat) (R : Option Addr) (cR : Nat) (M : Option Addr) (cM : Nat) (hv : vb b (.slice A 1 c) 0 5 w) (hC : Kd.C k67 w A 1 [⟨5, [⟨#[97]⟩]⟩]) (hc : 1 ≤ c)
    (hR : Kd.C k65 w R 1 [⟨⟨#[]⟩, ⟨#[98]⟩⟩]) (hcR : 1 ≤ cR) (hM : Kd.C Kd.string w M 0 []) (hcM : 0 ≤ cM) :
    Calls Try.prog 12 #[.pointer (some ⟨b, 0, none⟩), .int .i64 4, .int .i64 1, .agg #[.slice none 0 0, .slice R 1 cR], .slice M 0 cM] w fun e w' => e = .returned (.int .i64 0) ∧ Below w.heap.size w w' := by
  obtain ⟨ad, A1, c1, rfl, x0, x1, hs⟩ := com1 hC
  have hb : Below w.heap.size w (w.alloc (.cells #[.slice none 0 0, .slice R 1 cR] 26)) := (Below.refl _ _).alloc (Nat.le_refl _) _
  have g1 := World.alloc_heap_new w (.cells #[.slice none 0 0, .slice R 1 cR] 26)
  obtain ⟨W, hW⟩ : ∃ W, W = w.alloc (.cells #[.slice none 0 0, .slice R 1 cR] 26) := ⟨_, rfl⟩
  rw [← hW] at hb g1
  have k0 : W.cell? ⟨w.heap.size, 0, none⟩ = some (.slice none 0 0) := by simp only [World.cell?, g1]; rfl
  have k1 : W.cell? ⟨w.heap.size, 1, none⟩ = some (.slice R 1 cR) := by simp only [World.cell?, g1]; rfl
  have hvW := hv.below hv.lt hb
  have z0 := hvW.c0
  have z1 := hvW.c1
  have z2 := hvW.c2
  replace x0 := bc hb x0
  replace x1 := bc hb x1
  have hR2 := Kd.C_below hR hb
  have hM2 := Kd.C_below hM hb
  have hs2 := Kd.C_below hs hb
  clear hR hM hs g1 hC hv hvW
  have AW := Aside0.mk hW
  clear hW
  have AZ : Aside0 ((w.alloc (.cells #[.slice none 0 0, .slice R 1 cR] 26)).cell? ⟨b, 0, none⟩ = some (.bool true)) := Aside0.mk (AW.out ▸ z0)
  have AY : Aside0 ((w.alloc (.cells #[.slice none 0 0, .slice R 1 cR] 26)).cell? ⟨b, 2, none⟩ = some (.int .i64 0)) := Aside0.mk (AW.out ▸ z2)
  have AX : Aside0 ((w.alloc (.cells #[.slice none 0 0, .slice R 1 cR] 26)).cell? ⟨b, 1, none⟩ = some (.slice (some ad) 1 c)) := Aside0.mk (AW.out ▸ z1)
  go_enter Try.func12, Try.ntmps12
  have q1 := AX.out
  have q2 := AY.out
  go_wp2
  go_step3
  go_wp2_with (go_at_call 30; refine (none_calls b _ true AZ.out).mono ?_; rintro e w' ⟨rfl, rfl⟩)
  go_step3
  go_wp2
  clear q1 q2 AX AY AZ
  rw [← AW.out]
  go_loopw [11] (fun p wr => ∃ i : Int, p = .int .i64 i ∧ (i = 0 ∨ (i = -1 ∧ True)) ∧ Below W.heap.size W wr) (fun p wr => (intOf p + 1).toNat)
  case atStart => exact ⟨0, rfl, .inl rfl, Below.refl _ _⟩
  case round =>
    obtain ⟨i, rfl, hi, hBr⟩ := hrel
    rcases hi with rfl | ⟨rfl, hf⟩
    · have k0r := bc hBr k0
      have k1r := bc hBr k1
      have z1r := bc hBr z1
      have x0r := bc hBr x0
      have x1r := bc hBr x1
      have hRr := Kd.C_below hR2 hBr
      have hMr := Kd.C_below hM2 hBr
      have hsr := Kd.C_below hs2 hBr
      clear k0 k1 z0 z1 z2 x0 x1 hR2 hM2 hs2
      go_wp2
      have hRd := Kd.C_drew hRr
      have hMd := Kd.C_drew hMr
      have hsd := Kd.C_drew hsr
      go_region_law (refine goes_ Try.func15 (by kernel_rfl) rfl #[.int .i64 1, .agg #[.slice none 0 0, .slice R 1 cR], .slice M 0 cM, .slice A1 1 c1] (by rfl) rfl rfl (by simp only [List.map_toArray, List.map_cons, List.map_nil]; rfl) ?_; refine (clash3 _ R cR M cM A1 c1 hRd hcR hMd hcM hsd).mono ?_; rintro e w5 ⟨rfl, hb5⟩; refine ⟨_, rfl, ?_⟩)
      all_goals
        have hB5 : Below W.heap.size W w5 := (below_drew hBr).trans (hb5.mono hBr.size)
        go_wp2
        go_roundw
        case rel => exact ⟨-1, rfl, .inr ⟨rfl, trivial⟩, hB5⟩
        case measure => decide
    · go_wp2
      rw [Exit.noGoto_ret]
      go_ret
      exact ⟨rfl, hb.trans (hBr.mono hb.size)⟩
end Go.Proofs.Ytgbmlkoblcfceaa.Vd

set_option linter.unusedVariables false
set_option linter.unusedSimpArgs false
namespace Go.Proofs.Ytgbmlkoblcfceaa.Vd
open Go.RowKit Go.Proofs.Ytgbmlkoblcfceaa.B Go.Proofs.YtgbmlkoblcfceaaW.PrintWords Go.Proofs.YtgbmlkoblcfceaaW.PrintLast Go.Proofs.YtgbmlkoblcfceaaW.PrintMore Go.Proofs.YtgbmlkoblcfceaaW.Mine Go.Proofs.YtgbmlkoblcfceaaW.Hp
theorem newC {α : Type} (d : Kd α) (w : World) (x : α) (cs : List Value) (t : Nat) (hk : ∀ W, d.K W x cs) : Kd.C d (w.alloc (.cells cs.toArray t)) (some ⟨w.heap.size, 0, none⟩) 1 [x] := by
  have g := World.alloc_heap_new w (.cells cs.toArray t)
  refine ⟨rfl, by omega, fun _ => ⟨_, rfl, fun j p hj => ?_⟩⟩
  have hj0 : j = 0 := by
    have := (List.getElem?_eq_some_iff.1 hj).1
    simp at this
    exact this
  subst hj0
  obtain rfl : x = p := by simpa using hj
  refine ⟨cs, d.K_len (hk w), hk _, fun i u hu => ?_⟩
  have hg : (w.alloc (.cells cs.toArray t)).cell? ⟨w.heap.size, i, none⟩ = some u := by
    simp only [World.cell?, g]
    simpa using hu
  rw [show 0 * d.sz + i = i by simp]
  by_cases h0 : i = 0
  · subst h0
    rw [Addr.add_zero']
    exact hg
  · have : (Addr.add ⟨w.heap.size, 0, none⟩ i) = ⟨w.heap.size, i, none⟩ := by unfold Addr.add; simp [h0]
    rw [this]
    exact hg
theorem newS (w : World) (s : ByteArray) : Kd.C Kd.string (w.alloc (.cells #[.string s] 9)) (some ⟨w.heap.size, 0, none⟩) 1 [s] := newC Kd.string w s [.string s] 9 (fun _ => rfl)
theorem newR (w : World) (x : S65) : Kd.C k65 (w.alloc (.cells #[.string x.f0, .string x.f1] 65)) (some ⟨w.heap.size, 0, none⟩) 1 [x] := newC k65 w x [.string x.f0, .string x.f1] 65 (fun W => k65_mk W x)
theorem al (w : World) (o : Obj) : Below w.heap.size w (w.alloc o) := (Below.refl _ _).alloc (Nat.le_refl _) _
set_option maxHeartbeats 8000000 in
set_option maxRecDepth 100000 in
theorem live_calls (w : World) : Calls Try.prog 11 #[] w fun e w' => e = .returned (.bool true) ∧ Below w.heap.size w w' := by
  obtain ⟨w1, h1⟩ : ∃ w1, w1 = w.alloc (.cells #[.bool true, .slice none 0 0, .int .i64 0, .int .i64 0] 61) := ⟨_, rfl⟩
  have g1 := World.alloc_heap_new w (.cells #[.bool true, .slice none 0 0, .int .i64 0, .int .i64 0] 61)
  rw [← h1] at g1
  have v1 : vb w.heap.size (.slice none 0 0) 0 0 w1 := g1
  have B1 : Below w.heap.size w w1 := by rw [h1]; exact al _ _
  have v2 := v1.below v1.lt (al w1 (.cells #[.string ⟨#[97]⟩] 9))
  have c2 := newS w1 ⟨#[97]⟩
  have B2 : Below w.heap.size w (w1.alloc (.cells #[.string ⟨#[97]⟩] 9)) := B1.trans ((al w1 _).mono B1.size)
  go_enter Try.func11, Try.ntmps11
  go_wp2_with (go_at_call 13; refine (new_calls _).mono ?_; rintro e w' ⟨rfl, rfl⟩)
  rw [← h1]
  have s1 : w1.heap.size = w.heap.size + 1 := by rw [h1, World.size_alloc]
  rw [s1] at c2
  refine (add_live w.heap.size (w1.alloc (.cells #[.string ⟨#[97]⟩] 9)) (some ⟨w.heap.size + 1, 0, none⟩) 1 v2 c2 (Nat.le_refl _)).mono ?_
  rintro e w3 ⟨rfl, B3, A, c, v3, c3, hc⟩
  have B3w : Below w.heap.size w w3 := B2.trans B3
  clear v1 v2 c2 g1 B1 B2 B3 h1
  go_wp2_with (fail)
  obtain ⟨W4, hW4⟩ : ∃ W4, W4 = (w3.alloc (.cells #[.string ⟨#[]⟩, .string ⟨#[98]⟩] 65)).alloc (.cells #[.slice none 0 0, .slice (some ⟨w3.heap.size, 0, none⟩) 1 1] 26) := ⟨_, rfl⟩
  rw [← hW4]
  have s4 : W4.heap.size = w3.heap.size + 1 + 1 := by rw [hW4, World.size_alloc, World.size_alloc]
  have B4 : Below w3.heap.size w3 W4 := by rw [hW4]; exact (al w3 _).alloc (al w3 _).size _
  have r4 : Kd.C k65 W4 (some ⟨w3.heap.size, 0, none⟩) 1 [⟨⟨#[]⟩, ⟨#[98]⟩⟩] := by rw [hW4]; exact Kd.C_below (newR w3 ⟨⟨#[]⟩, ⟨#[98]⟩⟩) (al _ _)
  have g4 := World.alloc_heap_new (w3.alloc (.cells #[.string ⟨#[]⟩, .string ⟨#[98]⟩] 65)) (.cells #[.slice none 0 0, .slice (some ⟨w3.heap.size, 0, none⟩) 1 1] 26)
  rw [← hW4, World.size_alloc] at g4
  have t0 : W4.cell? ⟨w3.heap.size + 1, 0, none⟩ = some (.slice none 0 0) := by simp only [World.cell?, g4]; rfl
  have t1 : W4.cell? ⟨w3.heap.size + 1, 1, none⟩ = some (.slice (some ⟨w3.heap.size, 0, none⟩) 1 1) := by simp only [World.cell?, g4]; rfl
  have v4 := v3.below v3.lt B4
  have c4 := Kd.C_below c3 B4
  have Bw4 : Below w.heap.size w W4 := B3w.trans (B4.mono B3w.size)
  have n4 := newS W4 ⟨#[97]⟩
  rw [s4] at n4
  clear g4 hW4 B4 v3 c3 B3w
  refine (check1 w.heap.size (W4.alloc (.cells #[.string ⟨#[97]⟩] 9)) A c (some ⟨w3.heap.size, 0, none⟩) 1 (some ⟨w3.heap.size + 1 + 1, 0, none⟩) 1 (v4.below v4.lt (al _ _)) (Kd.C_below c4 (al _ _)) hc (Kd.C_below r4 (al _ _)) (Nat.le_refl _) n4 (Nat.le_refl _)).mono ?_
  rintro e w5 ⟨rfl, B5⟩
  have B45 : Below W4.heap.size W4 w5 := (al W4 _).trans (B5.mono (al W4 _).size)
  have t05 := bc B45 t0
  have t15 := bc B45 t1
  have v5 := v4.below v4.lt B45
  have c5 := Kd.C_below c4 B45
  have r5 := Kd.C_below r4 B45
  clear B5
  go_wp2_with (fail)
  refine (check2 w.heap.size (w5.alloc (.cells #[.string ⟨#[97]⟩] 9)) A c (some ⟨w3.heap.size, 0, none⟩) 1 (some ⟨w5.heap.size, 0, none⟩) 1 (v5.below v5.lt (al _ _)) (Kd.C_below c5 (al _ _)) hc (Kd.C_below r5 (al _ _)) (Nat.le_refl _) (newS w5 ⟨#[97]⟩) (Nat.le_refl _)).mono ?_
  rintro e w6 ⟨rfl, B6⟩
  have B46 : Below W4.heap.size W4 w6 := B45.trans (((al w5 _).trans (B6.mono (al w5 _).size)).mono B45.size)
  have t06 := bc B46 t0
  have t16 := bc B46 t1
  have v6 := v4.below v4.lt B46
  have c6 := Kd.C_below c4 B46
  have r6 := Kd.C_below r4 B46
  clear B6
  go_wp2_with (fail)
  refine (check3 w.heap.size w6 A c (some ⟨w3.heap.size, 0, none⟩) 1 none 0 v6 c6 hc r6 (Nat.le_refl _) (Kd.C_nil _ _) (Nat.le_refl _)).mono ?_
  rintro e w7 ⟨rfl, B7⟩
  have B47 : Below W4.heap.size W4 w7 := B46.trans (B7.mono B46.size)
  have t07 := bc B47 t0
  have t17 := bc B47 t1
  have v7 := v4.below v4.lt B47
  have c7 := Kd.C_below c4 B47
  have r7 := Kd.C_below r4 B47
  clear B7
  go_wp2_with (fail)
  refine (check4 w.heap.size w7 A c (some ⟨w3.heap.size, 0, none⟩) 1 none 0 v7 c7 hc r7 (Nat.le_refl _) (Kd.C_nil _ _) (Nat.le_refl _)).mono ?_
  rintro e w8 ⟨rfl, B8⟩
  have B48 : Below W4.heap.size W4 w8 := B47.trans (B8.mono B47.size)
  go_wp2
  go_ret
  exact ⟨rfl, Bw4.trans (B48.mono Bw4.size)⟩
end Go.Proofs.Ytgbmlkoblcfceaa.Vd

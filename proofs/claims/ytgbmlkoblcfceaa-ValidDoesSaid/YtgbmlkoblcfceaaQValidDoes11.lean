/-
Of the row ValidDoes: printed walks and plain laws, merged (wip/claim2.py).
-/
import Derived.Test.YtgbmlkoblcfceaaQValidDoes3
import Derived.Test.YtgbmlkoblcfceaaQValidDoes10
import Derived.RangeFuncNested
import Derived.RangeFuncBound
import Derived.RangeFuncCalls
import Derived.RangeFuncLeaves
import Derived.RangeFuncMany
import Derived.RangeFuncFrom
import Derived.Shelf.Abstract
import Derived.Shelf.RegionOpen
import Derived.WalkKit
import Derived.OwnWalkIn
import Derived.TacticsInMore
import Derived.LoopNIn
import Derived.LoopIn
import Derived.Deep.Heap
set_option linter.unusedVariables false
set_option linter.unusedSimpArgs false
namespace Go.Proofs.Ytgbmlkoblcfceaa.Vd
open Go.RowKit Go.Proofs.Ytgbmlkoblcfceaa.B Go.Proofs.YtgbmlkoblcfceaaW.PrintWords Go.Proofs.YtgbmlkoblcfceaaW.PrintLast Go.Proofs.YtgbmlkoblcfceaaW.PrintMore Go.Proofs.YtgbmlkoblcfceaaW.Mine Go.Proofs.YtgbmlkoblcfceaaW.Hp
theorem cn (W : World) (v : Value) (t : TypeId) : (W.alloc (.cells #[v] t)).cell? ⟨W.heap.size, 0, none⟩ = some v := by
  have h := World.alloc_heap_new W (.cells #[v] t)
  generalize W.heap.size = k at *
  simp [World.cell?, h]
theorem bc {w W : World} {a : Addr} {v : Value} (hb : Below w.heap.size w W) (hc : w.cell? a = some v) : W.cell? a = some v := (hb.cell (World.block_lt_of_cell? _ _ hc)).trans hc
theorem in44 (g : Nat) (w : World) (h : w.cell? ⟨g, 0, none⟩ = some (.string ⟨#[97]⟩)) : Calls Try.prog 44 #[.agg #[.string ⟨#[]⟩, .string ⟨#[98]⟩], .pointer (some ⟨g, 0, none⟩)] w fun e w' => e = .returned (.bool true) ∧ Below w.heap.size w w' := by
  have hb : Below w.heap.size w (w.alloc (.cells #[.string ⟨#[]⟩, .string ⟨#[98]⟩] 65)) := (Below.refl _ _).alloc (Nat.le_refl _) _
  have h2 := bc hb h
  go_enter Try.func44, Try.ntmps44
  go_wp2_with (go_at_call 45; refine (keys_In.calls ⟨#[]⟩ ⟨#[98]⟩ ⟨#[97]⟩ true _ (by kernel_rfl)).mono ?_; rintro e w' ⟨rfl, hb3⟩)
  go_ret
  exact ⟨rfl, hb.trans (hb3.mono hb.size)⟩
theorem in58 (g : Nat) (w : World) (A : Option Addr) (c : Nat) (h : w.cell? ⟨g, 0, none⟩ = some (.string ⟨#[97]⟩)) (hC : Kd.C k65 w A 1 [⟨⟨#[]⟩, ⟨#[98]⟩⟩]) (hc : 1 ≤ c) : Calls Try.prog 58 #[.slice A 1 c, .func (.func 44) #[] #[.pointer (some ⟨g, 0, none⟩)]] w fun e w' => e = .returned (.int .i64 0) ∧ Below w.heap.size w w' := by
  obtain ⟨ad, rfl, x0, x1⟩ := at_T65 hC 0 (by omega) (by omega)
  rw [show ((0 : Int)).toNat * 2 = 0 from rfl, Addr.add_zero'] at x0 x1
  replace x0 : w.cell? ad = some (.string ⟨#[]⟩) := x0
  replace x1 : w.cell? ⟨ad.block, ad.off + 1, none⟩ = some (.string ⟨#[98]⟩) := x1
  go_enter Try.func58, Try.ntmps58
  go_wp2
  go_loopw [8] (fun p wr => p = .int .i64 0 ∧ wr = w) (fun _ _ => 0)
  case atStart => exact ⟨rfl, rfl⟩
  case round =>
    obtain ⟨rfl, rfl⟩ := hrel
    go_wp2_with (go_at_call 44; refine (in44 g _ h).mono ?_; rintro e w' ⟨rfl, hb⟩)
    go_ret
    exact ⟨rfl, hb⟩
theorem in35 (w : World) (A : Option Addr) (c : Nat) (hC : Kd.C k65 w A 1 [⟨⟨#[]⟩, ⟨#[98]⟩⟩]) (hc : 1 ≤ c) : Calls Try.prog 35 #[.slice A 1 c, .string ⟨#[97]⟩] w fun e w' => e = .returned (.bool true) ∧ Below w.heap.size w w' := by
  have hb : Below w.heap.size w (w.alloc (.cells #[.string ⟨#[97]⟩] 9)) := (Below.refl _ _).alloc (Nat.le_refl _) _
  have hC2 := Kd.C_below hC hb
  have h43 : Calls Try.prog 43 #[.slice A 1 c, .func (.func 44) #[] #[.pointer (some ⟨w.heap.size, 0, none⟩)]] (w.alloc (.cells #[.string ⟨#[97]⟩] 9)) fun e w' => e = .returned (.bool true) ∧ Below (w.alloc (.cells #[.string ⟨#[97]⟩] 9)).heap.size (w.alloc (.cells #[.string ⟨#[97]⟩] 9)) w' := by
    go_enter Try.func43, Try.ntmps43
    go_wp2_with (go_at_call 58; refine (in58 w.heap.size _ A c (cn _ _ _) hC2 hc).mono ?_; rintro e w' ⟨rfl, hb⟩)
    go_ret
    exact ⟨rfl, hb⟩
  go_enter Try.func35, Try.ntmps35
  go_wp2_with (go_at_call 43; refine h43.mono ?_; rintro e w' ⟨rfl, hb2⟩)
  go_ret
  exact ⟨rfl, hb.trans (hb2.mono hb.size)⟩
theorem str1 {w : World} {ao : Addr} {s : ByteArray} (x0 : ∀ (j : Nat) (p : ByteArray), [s][j]? = some p → ∃ c, c.length = Kd.string.sz ∧ Kd.string.K w p c ∧ ∀ (i : Nat) (u : Value), c[i]? = some u → w.cell? (ao.add (j * Kd.string.sz + i)) = some u) : w.cell? ao = some (.string s) := by
  obtain ⟨cs, _, hk, hcell⟩ := x0 0 s rfl
  have hk2 : cs = [.string s] := hk
  subst hk2
  have := hcell 0 _ rfl
  rwa [show 0 * Kd.string.sz + 0 = 0 by simp, Addr.add_zero'] at this
set_option maxHeartbeats 4000000 in
theorem clash1 (w : World) (R : Option Addr) (cR : Nat) (M : Option Addr) (cM : Nat) (O : Option Addr) (cO : Nat)
    (hR : Kd.C k65 w R 1 [⟨⟨#[]⟩, ⟨#[98]⟩⟩]) (hcR : 1 ≤ cR) (hM : Kd.C Kd.string w M 1 [⟨#[97]⟩]) (hcM : 1 ≤ cM) (hO : Kd.C Kd.string w O 1 [⟨#[97]⟩]) :
    Calls Try.prog 15 #[.int .i64 1, .agg #[.slice none 0 0, .slice R 1 cR], .slice M 1 cM, .slice O 1 cO] w fun e w' => e = .returned (.bool true) ∧ Below w.heap.size w w' := by
  obtain ⟨ao, rfl, x0⟩ := hO.2.2 (by omega)
  have y0 := str1 x0
  have hb : Below w.heap.size w (w.alloc (.cells #[.slice none 0 0, .slice R 1 cR] 26)) := (Below.refl _ _).alloc (Nat.le_refl _) _
  have g1 := World.alloc_heap_new w (.cells #[.slice none 0 0, .slice R 1 cR] 26)
  go_enter Try.func15, Try.ntmps15
  go_wp2
  obtain ⟨W, hW⟩ : ∃ W, W = w.alloc (.cells #[.slice none 0 0, .slice R 1 cR] 26) := ⟨_, rfl⟩
  rw [← hW] at hb g1 ⊢
  have k0 : W.cell? ⟨w.heap.size, 0, none⟩ = some (.slice none 0 0) := by simp only [World.cell?, g1]; rfl
  have k1 : W.cell? ⟨w.heap.size, 1, none⟩ = some (.slice R 1 cR) := by simp only [World.cell?, g1]; rfl
  have y1 := bc hb y0
  have hR2 := Kd.C_below hR hb
  have hM2 := Kd.C_below hM hb
  have hN2 : Kd.C Kd.string W none 0 [] := Kd.C_nil _ _
  clear x0 g1 y0 hW
  go_loopw [13] (fun p wr => ∃ i : Int, p = .int .i64 i ∧ (i = 0 ∨ (i = 1 ∧ False)) ∧ Below W.heap.size W wr) (fun p wr => 1 - (intOf p).toNat)
  case atStart => exact ⟨0, rfl, .inl rfl, Below.refl _ _⟩
  case round =>
    obtain ⟨i, rfl, hi, hBr⟩ := hrel
    rcases hi with rfl | ⟨rfl, hf⟩
    · have k0r := bc hBr k0
      have k1r := bc hBr k1
      have y1r := bc hBr y1
      have hRr := Kd.C_below hR2 hBr
      have hMr := Kd.C_below hM2 hBr
      have hNr := Kd.C_below hN2 hBr
      clear k0 k1 y1 hR2 hM2 hN2 hR hM hO
      go_wp2_with (first
        | (go_at_call 34; refine (slices_Contains_string_string.calls 20 M cM [⟨#[97]⟩] ⟨#[97]⟩ true _ hMr hcM (by kernel_rfl)).mono ?_; rintro e w' ⟨rfl, ⟨nd, rfl⟩⟩; clear hMr; have hRd := Kd.C_drewN hRr nd; have hNd := Kd.C_drewN hNr nd; have hBd := pw_below_drewN hBr nd)
        | (go_at_call 34; refine (slices_Contains_string_string.calls 20 none 0 [] ⟨#[97]⟩ false _ hNd (Nat.le_refl _) (by kernel_rfl)).mono ?_; rintro e w' ⟨rfl, ⟨nd2, rfl⟩⟩; have hRe := Kd.C_drewN hRd nd2; have hBe := pw_below_drewN hBd nd2)
        | (go_at_call 35; refine (in35 _ R cR (by first | exact hRe | exact Kd.C_drewN hRr _) hcR).mono ?_; rintro e w' ⟨rfl, hb4⟩; have hBf := Below.trans (a := W) (by first | exact hBe | exact pw_below_drewN hBr _) (hb4.mono (by first | exact hBe.size | exact (pw_below_drewN hBr _).size))))
      go_ret
      exact ⟨rfl, hb.trans (hBd.mono hb.size)⟩
    · exact hf.elim
set_option maxHeartbeats 4000000 in
theorem clash2 (w : World) (R : Option Addr) (cR : Nat) (M : Option Addr) (cM : Nat) (O : Option Addr) (cO : Nat)
    (hR : Kd.C k65 w R 1 [⟨⟨#[]⟩, ⟨#[98]⟩⟩]) (hcR : 1 ≤ cR) (hM : Kd.C Kd.string w M 0 []) (hcM : 0 ≤ cM) (hO : Kd.C Kd.string w O 1 [⟨#[97]⟩]) :
    Calls Try.prog 15 #[.int .i64 2, .agg #[.slice none 0 0, .slice R 1 cR], .slice M 0 cM, .slice O 1 cO] w fun e w' => e = .returned (.bool true) ∧ Below w.heap.size w w' := by
  obtain ⟨ao, rfl, x0⟩ := hO.2.2 (by omega)
  have y0 := str1 x0
  have hb : Below w.heap.size w (w.alloc (.cells #[.slice none 0 0, .slice R 1 cR] 26)) := (Below.refl _ _).alloc (Nat.le_refl _) _
  have g1 := World.alloc_heap_new w (.cells #[.slice none 0 0, .slice R 1 cR] 26)
  go_enter Try.func15, Try.ntmps15
  go_wp2
  obtain ⟨W, hW⟩ : ∃ W, W = w.alloc (.cells #[.slice none 0 0, .slice R 1 cR] 26) := ⟨_, rfl⟩
  rw [← hW] at hb g1 ⊢
  have k0 : W.cell? ⟨w.heap.size, 0, none⟩ = some (.slice none 0 0) := by simp only [World.cell?, g1]; rfl
  have k1 : W.cell? ⟨w.heap.size, 1, none⟩ = some (.slice R 1 cR) := by simp only [World.cell?, g1]; rfl
  have y1 := bc hb y0
  have hR2 := Kd.C_below hR hb
  have hM2 := Kd.C_below hM hb
  have hN2 : Kd.C Kd.string W none 0 [] := Kd.C_nil _ _
  clear x0 g1 y0 hW
  go_loopw [13] (fun p wr => ∃ i : Int, p = .int .i64 i ∧ (i = 0 ∨ (i = 1 ∧ False)) ∧ Below W.heap.size W wr) (fun p wr => 1 - (intOf p).toNat)
  case atStart => exact ⟨0, rfl, .inl rfl, Below.refl _ _⟩
  case round =>
    obtain ⟨i, rfl, hi, hBr⟩ := hrel
    rcases hi with rfl | ⟨rfl, hf⟩
    · have k0r := bc hBr k0
      have k1r := bc hBr k1
      have y1r := bc hBr y1
      have hRr := Kd.C_below hR2 hBr
      have hMr := Kd.C_below hM2 hBr
      have hNr := Kd.C_below hN2 hBr
      clear k0 k1 y1 hR2 hM2 hN2 hR hM hO
      go_wp2_with (first
        | (go_at_call 34; refine (slices_Contains_string_string.calls 20 M cM [] ⟨#[97]⟩ false _ hMr hcM (by kernel_rfl)).mono ?_; rintro e w' ⟨rfl, ⟨nd, rfl⟩⟩; clear hMr; have hRd := Kd.C_drewN hRr nd; have hNd := Kd.C_drewN hNr nd; have hBd := pw_below_drewN hBr nd)
        | (go_at_call 34; refine (slices_Contains_string_string.calls 20 none 0 [] ⟨#[97]⟩ false _ hNd (Nat.le_refl _) (by kernel_rfl)).mono ?_; rintro e w' ⟨rfl, ⟨nd2, rfl⟩⟩; have hRe := Kd.C_drewN hRd nd2; have hBe := pw_below_drewN hBd nd2)
        | (go_at_call 35; refine (in35 _ R cR (by first | exact hRe | exact Kd.C_drewN hRr _) hcR).mono ?_; rintro e w' ⟨rfl, hb4⟩; have hBf := Below.trans (a := W) (by first | exact hBe | exact pw_below_drewN hBr _) (hb4.mono (by first | exact hBe.size | exact (pw_below_drewN hBr _).size))))
      go_ret
      exact ⟨rfl, hb.trans (hBf.mono hb.size)⟩
    · exact hf.elim
set_option maxHeartbeats 4000000 in
theorem clash3 (w : World) (R : Option Addr) (cR : Nat) (M : Option Addr) (cM : Nat) (O : Option Addr) (cO : Nat)
    (hR : Kd.C k65 w R 1 [⟨⟨#[]⟩, ⟨#[98]⟩⟩]) (hcR : 1 ≤ cR) (hM : Kd.C Kd.string w M 0 []) (hcM : 0 ≤ cM) (hO : Kd.C Kd.string w O 1 [⟨#[97]⟩]) :
    Calls Try.prog 15 #[.int .i64 1, .agg #[.slice none 0 0, .slice R 1 cR], .slice M 0 cM, .slice O 1 cO] w fun e w' => e = .returned (.bool false) ∧ Below w.heap.size w w' := by
  obtain ⟨ao, rfl, x0⟩ := hO.2.2 (by omega)
  have y0 := str1 x0
  have hb : Below w.heap.size w (w.alloc (.cells #[.slice none 0 0, .slice R 1 cR] 26)) := (Below.refl _ _).alloc (Nat.le_refl _) _
  have g1 := World.alloc_heap_new w (.cells #[.slice none 0 0, .slice R 1 cR] 26)
  go_enter Try.func15, Try.ntmps15
  go_wp2
  obtain ⟨W, hW⟩ : ∃ W, W = w.alloc (.cells #[.slice none 0 0, .slice R 1 cR] 26) := ⟨_, rfl⟩
  rw [← hW] at hb g1 ⊢
  have k0 : W.cell? ⟨w.heap.size, 0, none⟩ = some (.slice none 0 0) := by simp only [World.cell?, g1]; rfl
  have k1 : W.cell? ⟨w.heap.size, 1, none⟩ = some (.slice R 1 cR) := by simp only [World.cell?, g1]; rfl
  have y1 := bc hb y0
  have hR2 := Kd.C_below hR hb
  have hM2 := Kd.C_below hM hb
  have hN2 : Kd.C Kd.string W none 0 [] := Kd.C_nil _ _
  clear x0 g1 y0 hW
  go_loopw [13] (fun p wr => ∃ i : Int, p = .int .i64 i ∧ (i = 0 ∨ (i = 1 ∧ True)) ∧ Below W.heap.size W wr) (fun p wr => 1 - (intOf p).toNat)
  case atStart => exact ⟨0, rfl, .inl rfl, Below.refl _ _⟩
  case round =>
    obtain ⟨i, rfl, hi, hBr⟩ := hrel
    rcases hi with rfl | ⟨rfl, hf⟩
    · have k0r := bc hBr k0
      have k1r := bc hBr k1
      have y1r := bc hBr y1
      have hRr := Kd.C_below hR2 hBr
      have hMr := Kd.C_below hM2 hBr
      have hNr := Kd.C_below hN2 hBr
      clear k0 k1 y1 hR2 hM2 hN2 hR hM hO
      go_wp2_with (first
        | (go_at_call 34; refine (slices_Contains_string_string.calls 20 M cM [] ⟨#[97]⟩ false _ hMr hcM (by kernel_rfl)).mono ?_; rintro e w' ⟨rfl, ⟨nd, rfl⟩⟩; clear hMr; have hRd := Kd.C_drewN hRr nd; have hNd := Kd.C_drewN hNr nd; have hBd := pw_below_drewN hBr nd)
        | (go_at_call 34; refine (slices_Contains_string_string.calls 20 none 0 [] ⟨#[97]⟩ false _ hNd (Nat.le_refl _) (by kernel_rfl)).mono ?_; rintro e w' ⟨rfl, ⟨nd2, rfl⟩⟩; have hRe := Kd.C_drewN hRd nd2; have hBe := pw_below_drewN hBd nd2)
        | (go_at_call 35; refine (in35 _ R cR (by first | exact hRe | exact Kd.C_drewN hRr _) hcR).mono ?_; rintro e w' ⟨rfl, hb4⟩; have hBf := Below.trans (a := W) (by first | exact hBe | exact pw_below_drewN hBr _) (hb4.mono (by first | exact hBe.size | exact (pw_below_drewN hBr _).size))))
      go_roundw
      case rel => exact ⟨1, rfl, .inr ⟨rfl, trivial⟩, hBd⟩
      case measure => decide
    · go_wp2
      go_ret
      exact ⟨rfl, hb.trans (hBr.mono hb.size)⟩
end Go.Proofs.Ytgbmlkoblcfceaa.Vd

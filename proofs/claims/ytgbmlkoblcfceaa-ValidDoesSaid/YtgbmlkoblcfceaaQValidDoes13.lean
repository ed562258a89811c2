/-
Of the row ValidDoes: printed walks and plain laws, merged (wip/claim2.py).
-/
import Derived.Test.YtgbmlkoblcfceaaQValidDoes3
import Derived.Test.YtgbmlkoblcfceaaQValidDoes7
namespace Go.Proofs.Ytgbmlkoblcfceaa.B
open Go.RowKit Go.Proofs.YtgbmlkoblcfceaaW.PrintWords Go.Proofs.YtgbmlkoblcfceaaW.PrintLast Go.Proofs.YtgbmlkoblcfceaaW.PrintMore Go.Proofs.YtgbmlkoblcfceaaW.Mine
attribute [local go_sem] max2_int min2_int max_two min_two max_three min_three max_four min_four str_gtr str_leq str_geq str_max str_min   -- for this text's walks alone
set_option linter.unusedVariables false
set_option linter.unusedSimpArgs false

set_option maxHeartbeats 4000000 in
set_option maxRecDepth 100000 in
theorem api_Range_58.any_44 {lb : Array Value} {p : S65 → Bool} (A0 : Option Addr) (c0 : Nat) (l0 : List (S65)) (w : World)
    (hp : ∀ (W : World) (x : S65), x ∈ l0 → Below w.heap.size w W → Calls Try.prog 44 (#[.agg #[.string x.f0, .string x.f1]] ++ lb) W fun e w' => e = .returned (.bool (p x)) ∧ Below W.heap.size W w')
    (hr0 : Kd.C k65 w A0 l0.length l0) (hc0 : l0.length ≤ c0) (hlen : l0.length ≤ 9223372036854775807) :
    Calls Try.prog 58 #[.slice A0 l0.length c0, .func (.func 44) #[] lb] w fun e w' => e = .returned (.int .i64 (Sl.idxI p l0)) ∧ Below w.heap.size w w' := by
  have HR0 := Aside0.mk hr0
  have HP := Aside0.mk hp
  clear hr0 hp
  go_enter Try.func58, Try.ntmps58
  go_wp2
  go_loopg [5, 8] l0.length (fun gk _ v8 w' => ∃ kk : Nat, kk ≤ l0.length ∧ l0.length - kk ≤ gk ∧ v8 = .int .i64 kk ∧ Aside0 (Below w.heap.size w w') ∧ Aside0 (∀ j, j < kk → p (l0.getD j z65) = false))
  case atStart => exact ⟨0, Nat.zero_le _, by omega, rfl, ⟨Below.refl _ w⟩, ⟨fun j hj => absurd hj (Nat.not_lt_zero _)⟩⟩
  case round =>
    obtain ⟨kk, hkk, hg, rfl, HB, HN⟩ := hrel
    by_cases hlt : kk < l0.length
    · have hltz : (kk : Int) < (l0.length : Int) := by omega
      obtain ⟨ad, e0, hx_0, hx_1⟩ := at_T65 HR0.out (kk : Int) (by omega) hltz
      cases e0
      replace hx_0 := (HB.out.cell (World.block_lt_of_cell? w _ hx_0)).trans hx_0
      replace hx_1 := (HB.out.cell (World.block_lt_of_cell? w _ hx_1)).trans hx_1
      have hcall := HP.out _ (rd_T65 l0 (kk : Int)) (Sl.getD_in _ hlt) HB.out
      have hrd : rd_T65 l0 (kk : Int) = l0.getD kk z65 := rfl
      simp only [Int.toNat_natCast] at hx_0 hx_1
      have HRD : Aside0 (l0.getD kk z65 = rd_T65 l0 (kk : Int)) := ⟨rfl⟩
      clear hrd
      generalize rd_T65 l0 (kk : Int) = y at hx_0 hx_1 hcall HRD
      cases hq : p y with
      | true =>
        rw [hq] at hcall
        go_wp2_with (go_at_call 44; refine hcall.mono ?_; rintro e w' ⟨rfl, hb⟩)
        go_ret
        refine ⟨?_, below_then HB.out HB.out.size hb⟩
        rw [Sl.idxI_hit z65 hlt (by rw [HRD.out]; exact hq) HN.out]
        rfl
      | false =>
        rw [hq] at hcall
        go_wp2_with (go_at_call 44; refine hcall.mono ?_; rintro e w' ⟨rfl, hb⟩)
        go_roundg (l0.length - (kk + 1))
        case measure => omega
        case rel =>
          refine ⟨kk + 1, by omega, by omega, by go_num, ⟨below_then HB.out HB.out.size hb⟩, ⟨fun j hj => ?_⟩⟩
          by_cases e : j = kk
          · subst e
            rw [HRD.out]; exact hq
          · exact HN.out j (by omega)
    · have hltz : ¬ (kk : Int) < (l0.length : Int) := by omega
      have : kk = l0.length := by omega
      subst this
      go_wp2
      go_ret
      refine ⟨?_, HB.out⟩
      rw [Sl.idxI_none z65 HN.out]
      rfl

end Go.Proofs.Ytgbmlkoblcfceaa.B

namespace Go.Proofs.Ytgbmlkoblcfceaa.B
open Go.RowKit Go.Proofs.YtgbmlkoblcfceaaW.PrintWords Go.Proofs.YtgbmlkoblcfceaaW.PrintLast Go.Proofs.YtgbmlkoblcfceaaW.PrintMore Go.Proofs.YtgbmlkoblcfceaaW.Mine
attribute [local go_sem] max2_int min2_int max_two min_two max_three min_three max_four min_four str_gtr str_leq str_geq str_max str_min   -- for this text's walks alone
set_option linter.unusedVariables false
set_option linter.unusedSimpArgs false

set_option maxHeartbeats 4000000 in
set_option maxRecDepth 100000 in
theorem api_Range_43.any_44 {lb : Array Value} {p : S65 → Bool} (A0 : Option Addr) (c0 : Nat) (l0 : List (S65)) (w : World)
    (hp : ∀ (W : World) (x : S65), x ∈ l0 → Below w.heap.size w W → Calls Try.prog 44 (#[.agg #[.string x.f0, .string x.f1]] ++ lb) W fun e w' => e = .returned (.bool (p x)) ∧ Below W.heap.size W w')
    (hr0 : Kd.C k65 w A0 l0.length l0) (hc0 : l0.length ≤ c0) (hlen : l0.length ≤ 9223372036854775807) :
    Calls Try.prog 43 #[.slice A0 l0.length c0, .func (.func 44) #[] lb] w fun e w' => e = .returned (.bool (l0.any p)) ∧ Below w.heap.size w w' := by
  have hcon := api_Range_58.any_44 A0 c0 l0 w hp hr0 hc0 hlen
  rw [← Sl.idxI_nonneg]
  clear hp hr0
  generalize Sl.idxI p l0 = r at hcon ⊢
  go_enter Try.func43, Try.ntmps43
  go_wp2_with (go_at_call 58; refine hcon.mono ?_; rintro e w' ⟨rfl, hb⟩)
  go_ret
  exact ⟨rfl, hb⟩

end Go.Proofs.Ytgbmlkoblcfceaa.B

namespace Go.Proofs.Ytgbmlkoblcfceaa.B
open Go.RowKit Go.Proofs.YtgbmlkoblcfceaaW.PrintWords Go.Proofs.YtgbmlkoblcfceaaW.PrintLast Go.Proofs.YtgbmlkoblcfceaaW.PrintMore Go.Proofs.YtgbmlkoblcfceaaW.Mine
attribute [local go_sem] max2_int min2_int max_two min_two max_three min_three max_four min_four str_gtr str_leq str_geq str_max str_min   -- for this text's walks alone
set_option linter.unusedVariables false
set_option linter.unusedSimpArgs false

def keys_Hits.f (l0 : List S65) (a1 : ByteArray) : Option Bool := if l0.length ≤ 9223372036854775807 ∧ (l0.all fun x => (keys_In.f x.f0 x.f1 a1).isSome) = true then some (l0.any fun x => (keys_In.f x.f0 x.f1 a1).getD false) else none
set_option maxHeartbeats 2000000 in
set_option maxRecDepth 100000 in
theorem keys_Hits.closure (b : Nat) (x : S65) (key : ByteArray) (r : Bool) (W : World) (hc : W.cell? ⟨b, 0, none⟩ = some (.string key)) (h : keys_In.f x.f0 x.f1 key = some r) :
    Calls Try.prog 44 #[.agg #[.string x.f0, .string x.f1], .pointer (some ⟨b, 0, none⟩)] W fun e w' => e = .returned (.bool r) ∧ Below W.heap.size W w' := by
  have hbW : b < W.heap.size := World.block_lt_of_cell? W ⟨b, 0, none⟩ hc
  have hne : b ≠ W.heap.size := by omega
  have H := Aside0.mk h
  clear h
  go_enter Try.func44, Try.ntmps44
  go_wp2_with (go_at_call 45; refine (keys_In.calls x.f0 x.f1 key r _ H.out).mono ?_; rintro e w' ⟨rfl, hb⟩)
  go_ret
  exact ⟨rfl, below_then ((Below.refl _ W).alloc (Nat.le_refl _) _) (by simp) hb⟩
set_option maxHeartbeats 2000000 in
set_option maxRecDepth 100000 in
theorem keys_Hits.calls (A0 : Option Addr) (c0 : Nat) (l0 : List S65) (a1 : ByteArray) (r : Bool) (w : World) (hr0 : Kd.C k65 w A0 l0.length l0) (hc0 : l0.length ≤ c0) (h : keys_Hits.f l0 a1 = some r) :
    Calls Try.prog 35 #[.slice A0 l0.length c0, .string a1] w fun e w' => e = .returned (.bool r) ∧ Below w.heap.size w w' := by
  unfold keys_Hits.f at h
  split at h
  · rename_i hh
    obtain ⟨hl, ha⟩ := hh
    obtain rfl := Option.some.inj h
    have hcon := api_Range_43.any_44 (lb := #[.pointer (some ⟨w.heap.size, 0, none⟩)]) (p := fun x => (keys_In.f x.f0 x.f1 a1).getD false) A0 c0 l0 (w.alloc (.cells #[.string a1] 9)) (fun W x hx hb => by
      have hs : (keys_In.f x.f0 x.f1 a1).isSome = true := (List.all_eq_true.1 ha) x hx
      obtain ⟨r, hr⟩ := Option.isSome_iff_exists.1 hs
      rw [hr]
      have hcell : W.cell? ⟨w.heap.size, 0, none⟩ = some (.string a1) := (hb.cell (p := ⟨w.heap.size, 0, none⟩) (by simp)).trans (by simp)
      exact keys_Hits.closure w.heap.size x a1 r W hcell hr) (Kd.C_alloc hr0 _) hc0 hl
    clear hr0 h ha hl
    generalize (l0.any fun x => (keys_In.f x.f0 x.f1 a1).getD false) = r at hcon ⊢
    go_enter Try.func35, Try.ntmps35
    go_wp2_with (go_at_call 43; refine hcon.mono ?_; rintro e w' ⟨rfl, hb⟩)
    go_ret
    exact ⟨rfl, below_then ((Below.refl _ w).alloc (Nat.le_refl _) _) (by simp) hb⟩
  · cases h

end Go.Proofs.Ytgbmlkoblcfceaa.B

namespace Go.Proofs.Ytgbmlkoblcfceaa.B
open Go.RowKit Go.Proofs.YtgbmlkoblcfceaaW.PrintWords Go.Proofs.YtgbmlkoblcfceaaW.PrintLast Go.Proofs.YtgbmlkoblcfceaaW.PrintMore Go.Proofs.YtgbmlkoblcfceaaW.Mine
attribute [local go_sem] max2_int min2_int max_two min_two max_three min_three max_four min_four str_gtr str_leq str_geq str_max str_min   -- for this text's walks alone
set_option linter.unusedVariables false
set_option linter.unusedSimpArgs false

def valid_Clash.l0 : Nat → Int → List ByteArray → List ByteArray → Int → Int → List ByteArray → List (S65) → Option (Bool)
  | 0, _, _, _, _, _, _, _ => none
  | k + 1, x0, x2, x11, x12, x13, x128000, x128001 => if x13 < x12 then (if 0 ≤ x13 then (if x13 < (x11.length : Int) then ((slices_Contains_string_string.f k x2 (rdOf ByteArray.empty x11 x13)).bind fun t129 => (if t129 = true then (some true) else (if x0 = 2 then ((slices_Contains_string_string.f k x128000 (rdOf ByteArray.empty x11 x13)).bind fun t130 => (if t130 = true then (some true) else ((keys_Hits.f x128001 (rdOf ByteArray.empty x11 x13)).bind fun t131 => (if t131 = true then (some true) else (valid_Clash.l0 k x0 x2 x11 x12 (wrap64 (x13 + 1)) x128000 x128001))))) else (valid_Clash.l0 k x0 x2 x11 x12 (wrap64 (x13 + 1)) x128000 x128001)))) else (none)) else (none)) else (some false)
def valid_Clash.f (k : Nat) (a0 : Int) (l1_0 : List ByteArray) (l1_1 : List (S65)) (l2 : List ByteArray) (l3 : List ByteArray) : Option (Bool) := valid_Clash.l0 k a0 l2 l3 (l3.length : Int) 0 l1_0 l1_1
set_option maxHeartbeats 8000000 in
set_option maxRecDepth 100000 in
theorem valid_Clash.calls (k : Nat) (a0 : Int) (A1_0 : Option Addr) (c1_0 : Nat) (l1_0 : List ByteArray) (A1_1 : Option Addr) (c1_1 : Nat) (l1_1 : List (S65)) (A2 : Option Addr) (c2 : Nat) (l2 : List ByteArray) (A3 : Option Addr) (c3 : Nat) (l3 : List ByteArray) (r : Bool) (w : World) (hr1_0 : Kd.C Kd.string w A1_0 l1_0.length l1_0) (hc1_0 : l1_0.length ≤ c1_0) (hr1_1 : Kd.C k65 w A1_1 l1_1.length l1_1) (hc1_1 : l1_1.length ≤ c1_1) (hr2 : Kd.C Kd.string w A2 l2.length l2) (hc2 : l2.length ≤ c2) (hr3 : Kd.C Kd.string w A3 l3.length l3) (hc3 : l3.length ≤ c3) (h : valid_Clash.f k a0 l1_0 l1_1 l2 l3 = some r) :
    Calls Try.prog 15 #[.int .i64 a0, .agg #[.slice A1_0 l1_0.length c1_0, .slice A1_1 l1_1.length c1_1], .slice A2 l2.length c2, .slice A3 l3.length c3] w fun e w' => e = .returned (.bool r) ∧ Below w.heap.size w w' := by
 have hu26 := Try.underlying26
 have HR1_0 := Aside0.mk hr1_0
 have HC1_0 := Aside0.mk hc1_0
 clear hr1_0 hc1_0
 have HR1_1 := Aside0.mk hr1_1
 have HC1_1 := Aside0.mk hc1_1
 clear hr1_1 hc1_1
 have HR2 := Aside0.mk hr2
 have HC2 := Aside0.mk hc2
 clear hr2 hc2
 have HR3 := Aside0.mk hr3
 have HC3 := Aside0.mk hc3
 clear hr3 hc3
 have HB := Aside0.mk (Below.refl w.heap.size w)
 have H : (valid_Clash.l0 k a0 l2 l3 (l3.length : Int) 0 l1_0 l1_1) = some r := h
 clear h
 have H' := Aside0.mk H
 clear H
 go_enter Try.func15, Try.ntmps15
 go_wp2_with (first | ((with_reducible refine gate_dst (N := 5) rfl ?_); refine box_event ?hg (N := 5) ?hd (cs := #[.slice A1_0 l1_0.length c1_0, .slice A1_1 l1_1.length c1_1]) (t := 26) ?hr ?_; (case hd => rfl); (case hg => rfl); (case hr => first | (go_simp; done) | (go_simp; rfl)); intro gb127 hg w5 hbox hb; have n0_ := Aside0.mk (below_step (by repeat (first | (with_reducible first | exact HB.out | apply below_alloc | apply pw_below_drewN | apply below_drew1) | exact HB.out)) hb); have n1_ := Aside0.mk (hbox); have n2_ := Aside0.mk ((by rw [hg]; exact (below_size (by repeat (first | (with_reducible first | exact HB.out | apply below_alloc | apply pw_below_drewN | apply below_drew1) | exact HB.out))) : w.heap.size ≤ gb127)); have n3_ := Aside0.mk ((by rw [hg]; exact (below_size (by repeat (first | (with_reducible first | exact HB.out | apply below_alloc | apply pw_below_drewN | apply below_drew1) | exact HB.out))) : w.heap.size ≤ gb127)); clear HB; have HB := n0_; have BK127 := n1_; have GW127 := n2_; have GE127 := n3_; clear n0_ n1_ n2_ n3_; clear hb hbox hg))
 go_loopg [13] k (fun kq v13 w' => ∃ (x13_1 : Int), v13 = .int .i64 x13_1 ∧ Aside0 (valid_Clash.l0 kq a0 l2 l3 (l3.length : Int) x13_1 l1_0 l1_1 = some r) ∧ Aside0 (kq ≤ k) ∧ Aside0 (w'.heap[gb127]? = some (.cells #[(.slice A1_0 l1_0.length c1_0), (.slice A1_1 l1_1.length c1_1)] 26 (0, 0))) ∧ Aside0 (Below w.heap.size w w'))
 case atStart => exact ⟨(0), (by first | rfl | (simp; done) | (simp [*]; done)), H', ⟨Nat.le_refl _⟩, ⟨by (with_reducible repeat (first | refine blk_drewN ?_ _ | refine blk_drew ?_ | refine blk_alloc ?_ _)); exact BK127.out⟩, ⟨by repeat (first | (with_reducible first | exact HB.out | apply below_alloc | apply pw_below_drewN | apply below_drew1 | refine below_set ?_ GE127.out) | exact HB.out)⟩⟩
 case round =>
  clear H'
  try clear c1
  try clear c2
  try clear p2
  try clear c3
  obtain ⟨x13_1, rfl, HA, HK1, BK127, HB⟩ := hrel
  cases gk with
  | zero => exact absurd HA.out (by simp [valid_Clash.l0])
  | succ k1 =>
   have H := HA.out
   clear HA
   simp only [valid_Clash.l0] at H
   by_cases c6 : x13_1 < (l3.length : Int)
   ·
    rw [if_pos c6] at H
    have c6b0 : decide (x13_1 < (l3.length : Int)) = true := decide_eq_true c6
    clear c6
    by_cases c7 : 0 ≤ x13_1
    ·
     rw [if_pos c7] at H
     have c7b0 : decide (0 ≤ x13_1) = true := decide_eq_true c7
     clear c7
     by_cases c8 : x13_1 < (l3.length : Int)
     ·
      rw [if_pos c8] at H
      have c8b0 : decide (x13_1 < (l3.length : Int)) = true := decide_eq_true c8
      clear c8
      replace H := Option.bind_eq_some_iff.mp H
      obtain ⟨t129, A90, H⟩ := H
      replace H : (if t129 = true then (some true) else (if a0 = 2 then ((slices_Contains_string_string.f k1 l1_0 (rdOf ByteArray.empty l3 x13_1)).bind fun t130 => (if t130 = true then (some true) else ((keys_Hits.f l1_1 (rdOf ByteArray.empty l3 x13_1)).bind fun t131 => (if t131 = true then (some true) else (valid_Clash.l0 k1 a0 l2 l3 (l3.length : Int) (wrap64 (x13_1 + 1)) l1_0 l1_1))))) else (valid_Clash.l0 k1 a0 l2 l3 (l3.length : Int) (wrap64 (x13_1 + 1)) l1_0 l1_1))) = some r := H
      have A9 := Aside0.mk A90
      clear A90
      by_cases c10 : t129 = true
      ·
       subst c10
       have H1 : (some true) = some r := by rw [if_pos rfl] at H; first | done | exact H
       clear H
       have H := H1
       clear H1
       obtain rfl := Option.some.inj H
       have p128 : 0 ≤ (x13_1 : Int) := of_decide_eq_true (by first | (with_reducible assumption) | assumption)
       have q128 : x13_1 < (l3.length : Int) := of_decide_eq_true (by first | (with_reducible assumption) | assumption)
       obtain ⟨ad128, e128, hx128_0⟩ := Kd.at_string HR3.out x13_1 p128 q128
       cases e128
       replace hx128_0 := (HB.out.cell (World.block_lt_of_cell? w _ hx128_0)).trans hx128_0
       replace p128 := eq_true p128
       replace q128 := eq_true q128
       go_wp2_with (first | ((with_reducible refine gate_callee (f := 34) rfl ?_); refine goesL_ (some 19) rfl rfl Try.func34 (by kernel_rfl) rfl #[.slice A2 l2.length c2, .string (rdOf ByteArray.empty l3 x13_1)] rfl (by (try simp only [List.map_toArray, List.map_cons, List.map_nil]); first | done | rfl | (simp only [List.length_drop, List.length_take]; rfl)) ?_; (with_reducible refine (slices_Contains_string_string.calls k1 _ _ l2 (rdOf ByteArray.empty l3 x13_1) true _ ?side1 ?side2 A9.out).mono ?_); (case side1 => repeat (first | exact (Kd.C_below HR2.out HB.out) | (with_reducible refine Kd.C_alloc ?_ _) | (with_reducible refine Kd.C_drewN ?_ _) | (with_reducible refine Kd.C_drew ?_))); (case side2 => exact HC2.out); rintro e w' ⟨rfl, ⟨nd, rfl⟩⟩; refine ⟨_, rfl, ?_⟩))
       go_ret
       exact ⟨by first | rfl | (simp [errW_none, errW_some] <;> rfl) | (simp [*, errW_none, errW_some] <;> rfl), by repeat (first | (with_reducible first | exact HB.out | apply below_alloc | apply pw_below_drewN | apply below_drew1 | refine below_set ?_ GE127.out) | exact HB.out)⟩
      ·
       replace c10 := Bool.eq_false_iff.mpr c10
       subst c10
       have H1 : (if a0 = 2 then ((slices_Contains_string_string.f k1 l1_0 (rdOf ByteArray.empty l3 x13_1)).bind fun t130 => (if t130 = true then (some true) else ((keys_Hits.f l1_1 (rdOf ByteArray.empty l3 x13_1)).bind fun t131 => (if t131 = true then (some true) else (valid_Clash.l0 k1 a0 l2 l3 (l3.length : Int) (wrap64 (x13_1 + 1)) l1_0 l1_1))))) else (valid_Clash.l0 k1 a0 l2 l3 (l3.length : Int) (wrap64 (x13_1 + 1)) l1_0 l1_1)) = some r := by rw [if_neg (show ¬ (false = true) by decide)] at H; first | done | exact H
       clear H
       have H := H1
       clear H1
       by_cases c11 : a0 = 2
       ·
        rw [if_pos c11] at H
        have c11b0 : (a0 == 2) = true := beq_iff_eq.mpr c11
        have c11b1 : (a0 != 2) = false := bne_eq_false_iff_eq.mpr c11
        clear c11
        replace H := Option.bind_eq_some_iff.mp H
        obtain ⟨t130, A120, H⟩ := H
        replace H : (if t130 = true then (some true) else ((keys_Hits.f l1_1 (rdOf ByteArray.empty l3 x13_1)).bind fun t131 => (if t131 = true then (some true) else (valid_Clash.l0 k1 a0 l2 l3 (l3.length : Int) (wrap64 (x13_1 + 1)) l1_0 l1_1)))) = some r := H
        have A12 := Aside0.mk A120
        clear A120
        by_cases c13 : t130 = true
        ·
         subst c13
         have H1 : (some true) = some r := by rw [if_pos rfl] at H; first | done | exact H
         clear H
         have H := H1
         clear H1
         obtain rfl := Option.some.inj H
         have p128 : 0 ≤ (x13_1 : Int) := of_decide_eq_true (by first | (with_reducible assumption) | assumption)
         have q128 : x13_1 < (l3.length : Int) := of_decide_eq_true (by first | (with_reducible assumption) | assumption)
         obtain ⟨ad128, e128, hx128_0⟩ := Kd.at_string HR3.out x13_1 p128 q128
         cases e128
         replace hx128_0 := (HB.out.cell (World.block_lt_of_cell? w _ hx128_0)).trans hx128_0
         replace p128 := eq_true p128
         replace q128 := eq_true q128
         go_wp2_with (first | ((with_reducible refine gate_callee (f := 34) rfl ?_); refine goesL_ (some 19) rfl rfl Try.func34 (by kernel_rfl) rfl #[.slice A2 l2.length c2, .string (rdOf ByteArray.empty l3 x13_1)] rfl (by (try simp only [List.map_toArray, List.map_cons, List.map_nil]); first | done | rfl | (simp only [List.length_drop, List.length_take]; rfl)) ?_; (with_reducible refine (slices_Contains_string_string.calls k1 _ _ l2 (rdOf ByteArray.empty l3 x13_1) false _ ?side1 ?side2 A9.out).mono ?_); (case side1 => repeat (first | exact (Kd.C_below HR2.out HB.out) | (with_reducible refine Kd.C_alloc ?_ _) | (with_reducible refine Kd.C_drewN ?_ _) | (with_reducible refine Kd.C_drew ?_))); (case side2 => exact HC2.out); rintro e w' ⟨rfl, ⟨nd, rfl⟩⟩; refine ⟨_, rfl, ?_⟩; have hcz14_0 : wr.cell? ⟨gb127, 0, none⟩ = some (.slice A1_0 l1_0.length c1_0) := (blk_cell BK127.out 0).trans rfl; have hcz14_1 : wr.cell? ⟨gb127, 1, none⟩ = some (.slice A1_1 l1_1.length c1_1) := (blk_cell BK127.out 1).trans rfl; have hfz14_0 := blk_frozen BK127.out 0; have hfz14_1 := blk_frozen BK127.out 1) | (go_at_call 34; (with_reducible refine (slices_Contains_string_string.calls k1 _ _ l1_0 (rdOf ByteArray.empty l3 x13_1) true _ ?side1 ?side2 A12.out).mono ?_); (case side1 => repeat (first | exact (Kd.C_below HR1_0.out (by repeat (first | (with_reducible first | exact HB.out | apply below_alloc | apply pw_below_drewN | apply below_drew1 | refine below_set ?_ GE127.out) | exact HB.out))) | (with_reducible refine Kd.C_alloc ?_ _) | (with_reducible refine Kd.C_drewN ?_ _) | (with_reducible refine Kd.C_drew ?_))); (case side2 => exact HC1_0.out); rintro e w' ⟨rfl, ⟨nd, rfl⟩⟩))
         go_ret
         exact ⟨by first | rfl | (simp [errW_none, errW_some] <;> rfl) | (simp [*, errW_none, errW_some] <;> rfl), by repeat (first | (with_reducible first | exact HB.out | apply below_alloc | apply pw_below_drewN | apply below_drew1 | refine below_set ?_ GE127.out) | exact HB.out)⟩
        ·
         replace c13 := Bool.eq_false_iff.mpr c13
         subst c13
         have H1 : ((keys_Hits.f l1_1 (rdOf ByteArray.empty l3 x13_1)).bind fun t131 => (if t131 = true then (some true) else (valid_Clash.l0 k1 a0 l2 l3 (l3.length : Int) (wrap64 (x13_1 + 1)) l1_0 l1_1))) = some r := by rw [if_neg (show ¬ (false = true) by decide)] at H; first | done | exact H
         clear H
         have H := H1
         clear H1
         replace H := Option.bind_eq_some_iff.mp H
         obtain ⟨t131, A150, H⟩ := H
         replace H : (if t131 = true then (some true) else (valid_Clash.l0 k1 a0 l2 l3 (l3.length : Int) (wrap64 (x13_1 + 1)) l1_0 l1_1)) = some r := H
         have A15 := Aside0.mk A150
         clear A150
         by_cases c16 : t131 = true
         ·
          subst c16
          have H1 : (some true) = some r := by rw [if_pos rfl] at H; first | done | exact H
          clear H
          have H := H1
          clear H1
          obtain rfl := Option.some.inj H
          have p128 : 0 ≤ (x13_1 : Int) := of_decide_eq_true (by first | (with_reducible assumption) | assumption)
          have q128 : x13_1 < (l3.length : Int) := of_decide_eq_true (by first | (with_reducible assumption) | assumption)
          obtain ⟨ad128, e128, hx128_0⟩ := Kd.at_string HR3.out x13_1 p128 q128
          cases e128
          replace hx128_0 := (HB.out.cell (World.block_lt_of_cell? w _ hx128_0)).trans hx128_0
          replace p128 := eq_true p128
          replace q128 := eq_true q128
          go_wp2_with (first | ((with_reducible refine gate_callee (f := 34) rfl ?_); refine goesL_ (some 19) rfl rfl Try.func34 (by kernel_rfl) rfl #[.slice A2 l2.length c2, .string (rdOf ByteArray.empty l3 x13_1)] rfl (by (try simp only [List.map_toArray, List.map_cons, List.map_nil]); first | done | rfl | (simp only [List.length_drop, List.length_take]; rfl)) ?_; (with_reducible refine (slices_Contains_string_string.calls k1 _ _ l2 (rdOf ByteArray.empty l3 x13_1) false _ ?side1 ?side2 A9.out).mono ?_); (case side1 => repeat (first | exact (Kd.C_below HR2.out HB.out) | (with_reducible refine Kd.C_alloc ?_ _) | (with_reducible refine Kd.C_drewN ?_ _) | (with_reducible refine Kd.C_drew ?_))); (case side2 => exact HC2.out); rintro e w' ⟨rfl, ⟨nd, rfl⟩⟩; refine ⟨_, rfl, ?_⟩; have hcz17_0 : wr.cell? ⟨gb127, 0, none⟩ = some (.slice A1_0 l1_0.length c1_0) := (blk_cell BK127.out 0).trans rfl; have hcz17_1 : wr.cell? ⟨gb127, 1, none⟩ = some (.slice A1_1 l1_1.length c1_1) := (blk_cell BK127.out 1).trans rfl; have hfz17_0 := blk_frozen BK127.out 0; have hfz17_1 := blk_frozen BK127.out 1) | (go_at_call 34; (with_reducible refine (slices_Contains_string_string.calls k1 _ _ l1_0 (rdOf ByteArray.empty l3 x13_1) false _ ?side1 ?side2 A12.out).mono ?_); (case side1 => repeat (first | exact (Kd.C_below HR1_0.out (by repeat (first | (with_reducible first | exact HB.out | apply below_alloc | apply pw_below_drewN | apply below_drew1 | refine below_set ?_ GE127.out) | exact HB.out))) | (with_reducible refine Kd.C_alloc ?_ _) | (with_reducible refine Kd.C_drewN ?_ _) | (with_reducible refine Kd.C_drew ?_))); (case side2 => exact HC1_0.out); rintro e w' ⟨rfl, ⟨nd, rfl⟩⟩) | (go_at_call 35; (with_reducible refine (keys_Hits.calls _ _ l1_1 (rdOf ByteArray.empty l3 x13_1) true _ ?side1 ?side2 A15.out).mono ?_); (case side1 => repeat (first | exact (Kd.C_below HR1_1.out (by repeat (first | (with_reducible first | exact HB.out | apply below_alloc | apply pw_below_drewN | apply below_drew1 | refine below_set ?_ GE127.out) | exact HB.out))) | (with_reducible refine Kd.C_alloc ?_ _) | (with_reducible refine Kd.C_drewN ?_ _) | (with_reducible refine Kd.C_drew ?_))); (case side2 => exact HC1_1.out); rintro e w18 ⟨rfl, hb⟩; have n0_ := Aside0.mk (blk_below (g := gb127) (o := .cells #[.slice A1_0 l1_0.length c1_0, .slice A1_1 l1_1.length c1_1] 26 (0, 0)) (by (with_reducible repeat (first | refine blk_drewN ?_ _ | refine blk_drew ?_ | refine blk_alloc ?_ _)); exact BK127.out) hb); have n1_ := Aside0.mk (below_step (by repeat (first | (with_reducible first | exact HB.out | apply below_alloc | apply pw_below_drewN | apply below_drew1 | refine below_set ?_ GE127.out) | exact HB.out)) hb); clear BK127; clear HB; have BK127 := n0_; have HB := n1_; clear n0_ n1_; (try clear hb); (try clear hb2); (try clear hk); (try clear hi)))
          go_ret
          exact ⟨by first | rfl | (simp [errW_none, errW_some] <;> rfl) | (simp [*, errW_none, errW_some] <;> rfl), by repeat (first | (with_reducible first | exact HB.out | apply below_alloc | apply pw_below_drewN | apply below_drew1 | refine below_set ?_ GE127.out) | exact HB.out)⟩
         ·
          replace c16 := Bool.eq_false_iff.mpr c16
          subst c16
          have H1 : (valid_Clash.l0 k1 a0 l2 l3 (l3.length : Int) (wrap64 (x13_1 + 1)) l1_0 l1_1) = some r := by rw [if_neg (show ¬ (false = true) by decide)] at H; first | done | exact H
          clear H
          have H := H1
          clear H1
          have H' := Aside0.mk H
          clear H
          have p128 : 0 ≤ (x13_1 : Int) := of_decide_eq_true (by first | (with_reducible assumption) | assumption)
          have q128 : x13_1 < (l3.length : Int) := of_decide_eq_true (by first | (with_reducible assumption) | assumption)
          obtain ⟨ad128, e128, hx128_0⟩ := Kd.at_string HR3.out x13_1 p128 q128
          cases e128
          replace hx128_0 := (HB.out.cell (World.block_lt_of_cell? w _ hx128_0)).trans hx128_0
          replace p128 := eq_true p128
          replace q128 := eq_true q128
          go_wp2_with (first | ((with_reducible refine gate_callee (f := 34) rfl ?_); refine goesL_ (some 19) rfl rfl Try.func34 (by kernel_rfl) rfl #[.slice A2 l2.length c2, .string (rdOf ByteArray.empty l3 x13_1)] rfl (by (try simp only [List.map_toArray, List.map_cons, List.map_nil]); first | done | rfl | (simp only [List.length_drop, List.length_take]; rfl)) ?_; (with_reducible refine (slices_Contains_string_string.calls k1 _ _ l2 (rdOf ByteArray.empty l3 x13_1) false _ ?side1 ?side2 A9.out).mono ?_); (case side1 => repeat (first | exact (Kd.C_below HR2.out HB.out) | (with_reducible refine Kd.C_alloc ?_ _) | (with_reducible refine Kd.C_drewN ?_ _) | (with_reducible refine Kd.C_drew ?_))); (case side2 => exact HC2.out); rintro e w' ⟨rfl, ⟨nd, rfl⟩⟩; refine ⟨_, rfl, ?_⟩; have hcz19_0 : wr.cell? ⟨gb127, 0, none⟩ = some (.slice A1_0 l1_0.length c1_0) := (blk_cell BK127.out 0).trans rfl; have hcz19_1 : wr.cell? ⟨gb127, 1, none⟩ = some (.slice A1_1 l1_1.length c1_1) := (blk_cell BK127.out 1).trans rfl; have hfz19_0 := blk_frozen BK127.out 0; have hfz19_1 := blk_frozen BK127.out 1) | (go_at_call 34; (with_reducible refine (slices_Contains_string_string.calls k1 _ _ l1_0 (rdOf ByteArray.empty l3 x13_1) false _ ?side1 ?side2 A12.out).mono ?_); (case side1 => repeat (first | exact (Kd.C_below HR1_0.out (by repeat (first | (with_reducible first | exact HB.out | apply below_alloc | apply pw_below_drewN | apply below_drew1 | refine below_set ?_ GE127.out) | exact HB.out))) | (with_reducible refine Kd.C_alloc ?_ _) | (with_reducible refine Kd.C_drewN ?_ _) | (with_reducible refine Kd.C_drew ?_))); (case side2 => exact HC1_0.out); rintro e w' ⟨rfl, ⟨nd, rfl⟩⟩) | (go_at_call 35; (with_reducible refine (keys_Hits.calls _ _ l1_1 (rdOf ByteArray.empty l3 x13_1) false _ ?side1 ?side2 A15.out).mono ?_); (case side1 => repeat (first | exact (Kd.C_below HR1_1.out (by repeat (first | (with_reducible first | exact HB.out | apply below_alloc | apply pw_below_drewN | apply below_drew1 | refine below_set ?_ GE127.out) | exact HB.out))) | (with_reducible refine Kd.C_alloc ?_ _) | (with_reducible refine Kd.C_drewN ?_ _) | (with_reducible refine Kd.C_drew ?_))); (case side2 => exact HC1_1.out); rintro e w20 ⟨rfl, hb⟩; have n0_ := Aside0.mk (blk_below (g := gb127) (o := .cells #[.slice A1_0 l1_0.length c1_0, .slice A1_1 l1_1.length c1_1] 26 (0, 0)) (by (with_reducible repeat (first | refine blk_drewN ?_ _ | refine blk_drew ?_ | refine blk_alloc ?_ _)); exact BK127.out) hb); have n1_ := Aside0.mk (below_step (by repeat (first | (with_reducible first | exact HB.out | apply below_alloc | apply pw_below_drewN | apply below_drew1 | refine below_set ?_ GE127.out) | exact HB.out)) hb); clear BK127; clear HB; have BK127 := n0_; have HB := n1_; clear n0_ n1_; (try clear hb); (try clear hb2); (try clear hk); (try clear hi)))
          go_roundg k1
          case measure => have := HK1.out; omega
          case rel => exact ⟨(wrap64 (x13_1 + 1)), (by first | rfl | (simp; done) | (simp [*]; done)), H', ⟨by have := HK1.out; omega⟩, ⟨by (with_reducible repeat (first | refine blk_drewN ?_ _ | refine blk_drew ?_ | refine blk_alloc ?_ _)); exact BK127.out⟩, ⟨by repeat (first | (with_reducible first | exact HB.out | apply below_alloc | apply pw_below_drewN | apply below_drew1 | refine below_set ?_ GE127.out) | exact HB.out)⟩⟩
       ·
        rw [if_neg c11] at H
        have c11b0 : (a0 == 2) = false := beq_eq_false_iff_ne.mpr c11
        have c11b1 : (a0 != 2) = true := bne_iff_ne.mpr c11
        have H' := Aside0.mk H
        clear H
        have p128 : 0 ≤ (x13_1 : Int) := of_decide_eq_true (by first | (with_reducible assumption) | assumption)
        have q128 : x13_1 < (l3.length : Int) := of_decide_eq_true (by first | (with_reducible assumption) | assumption)
        obtain ⟨ad128, e128, hx128_0⟩ := Kd.at_string HR3.out x13_1 p128 q128
        cases e128
        replace hx128_0 := (HB.out.cell (World.block_lt_of_cell? w _ hx128_0)).trans hx128_0
        replace p128 := eq_true p128
        replace q128 := eq_true q128
        go_wp2_with (first | ((with_reducible refine gate_callee (f := 34) rfl ?_); refine goesL_ (some 19) rfl rfl Try.func34 (by kernel_rfl) rfl #[.slice A2 l2.length c2, .string (rdOf ByteArray.empty l3 x13_1)] rfl (by (try simp only [List.map_toArray, List.map_cons, List.map_nil]); first | done | rfl | (simp only [List.length_drop, List.length_take]; rfl)) ?_; (with_reducible refine (slices_Contains_string_string.calls k1 _ _ l2 (rdOf ByteArray.empty l3 x13_1) false _ ?side1 ?side2 A9.out).mono ?_); (case side1 => repeat (first | exact (Kd.C_below HR2.out HB.out) | (with_reducible refine Kd.C_alloc ?_ _) | (with_reducible refine Kd.C_drewN ?_ _) | (with_reducible refine Kd.C_drew ?_))); (case side2 => exact HC2.out); rintro e w' ⟨rfl, ⟨nd, rfl⟩⟩; refine ⟨_, rfl, ?_⟩))
        go_roundg k1
        case measure => have := HK1.out; omega
        case rel => exact ⟨(wrap64 (x13_1 + 1)), (by first | rfl | (simp; done) | (simp [*]; done)), H', ⟨by have := HK1.out; omega⟩, ⟨by (with_reducible repeat (first | refine blk_drewN ?_ _ | refine blk_drew ?_ | refine blk_alloc ?_ _)); exact BK127.out⟩, ⟨by repeat (first | (with_reducible first | exact HB.out | apply below_alloc | apply pw_below_drewN | apply below_drew1 | refine below_set ?_ GE127.out) | exact HB.out)⟩⟩
     ·
      rw [if_neg c8] at H
      exact absurd H (by simp)
    ·
     rw [if_neg c7] at H
     exact absurd H (by simp)
   ·
    rw [if_neg c6] at H
    have c6b0 : decide (x13_1 < (l3.length : Int)) = false := decide_eq_false c6
    clear c6
    obtain rfl := Option.some.inj H
    go_wp2
    go_ret
    exact ⟨by first | rfl | (simp [errW_none, errW_some] <;> rfl) | (simp [*, errW_none, errW_some] <;> rfl), by repeat (first | (with_reducible first | exact HB.out | apply below_alloc | apply pw_below_drewN | apply below_drew1 | refine below_set ?_ GE127.out) | exact HB.out)⟩

end Go.Proofs.Ytgbmlkoblcfceaa.B

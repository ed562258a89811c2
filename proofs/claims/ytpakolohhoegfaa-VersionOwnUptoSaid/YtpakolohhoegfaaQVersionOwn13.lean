/-
Of the row VersionOwn: printed walks and plain laws, merged (wip/claim2.py).
-/
import Derived.Test.YtpakolohhoegfaaQVersionOwn3
import Derived.Test.YtpakolohhoegfaaQVersionOwn12
namespace Go.Proofs.Ytpakolohhoegfaa.B
open Go.RowKit Go.Proofs.YtpakolohhoegfaaW.PrintWords Go.Proofs.YtpakolohhoegfaaW.PrintLast Go.Proofs.YtpakolohhoegfaaW.PrintMore Go.Proofs.YtpakolohhoegfaaW.Mine
attribute [local go_sem] max2_int min2_int max_two min_two max_three min_three max_four min_four str_gtr str_leq str_geq str_max str_min
set_option linter.unusedVariables false
set_option linter.unusedSimpArgs false

set_option maxHeartbeats 4000000 in
set_option maxRecDepth 100000 in
theorem api_Pair_62.any_45 {lb : Array Value} {p : S50 → Bool} (A0 : Option Addr) (c0 : Nat) (l0 : List (S50)) (w : World)
    (hp : ∀ (W : World) (x : S50), x ∈ l0 → Below w.heap.size w W → Calls Try.prog 45 (#[.agg #[.string x.f0, .string x.f1]] ++ lb) W fun e w' => e = .returned (.bool (p x)) ∧ Below W.heap.size W w')
    (hr0 : Kd.C k50 w A0 l0.length l0) (hc0 : l0.length ≤ c0) (hlen : l0.length ≤ 9223372036854775807) :
    Calls Try.prog 62 #[.slice A0 l0.length c0, .func (.func 45) #[] lb] w fun e w' => e = .returned (.int .i64 (Sl.idxI p l0)) ∧ Below w.heap.size w w' := by
  have HR0 := Aside0.mk hr0
  have HP := Aside0.mk hp
  clear hr0 hp
  go_enter Try.func62, Try.ntmps62
  go_wp2
  go_loopg [5, 8] l0.length (fun gk _ v8 w' => ∃ kk : Nat, kk ≤ l0.length ∧ l0.length - kk ≤ gk ∧ v8 = .int .i64 kk ∧ Aside0 (Below w.heap.size w w') ∧ Aside0 (∀ j, j < kk → p (l0.getD j z50) = false))
  case atStart => exact ⟨0, Nat.zero_le _, by omega, rfl, ⟨Below.refl _ w⟩, ⟨fun j hj => absurd hj (Nat.not_lt_zero _)⟩⟩
  case round =>
    obtain ⟨kk, hkk, hg, rfl, HB, HN⟩ := hrel
    by_cases hlt : kk < l0.length
    · have hltz : (kk : Int) < (l0.length : Int) := by omega
      obtain ⟨ad, e0, hx_0, hx_1⟩ := at_T50 HR0.out (kk : Int) (by omega) hltz
      cases e0
      replace hx_0 := (HB.out.cell (World.block_lt_of_cell? w _ hx_0)).trans hx_0
      replace hx_1 := (HB.out.cell (World.block_lt_of_cell? w _ hx_1)).trans hx_1
      have hcall := HP.out _ (rd_T50 l0 (kk : Int)) (Sl.getD_in _ hlt) HB.out
      have hrd : rd_T50 l0 (kk : Int) = l0.getD kk z50 := rfl
      simp only [Int.toNat_natCast] at hx_0 hx_1
      have HRD : Aside0 (l0.getD kk z50 = rd_T50 l0 (kk : Int)) := ⟨rfl⟩
      clear hrd
      generalize rd_T50 l0 (kk : Int) = y at hx_0 hx_1 hcall HRD
      cases hq : p y with
      | true =>
        rw [hq] at hcall
        go_wp2_with (go_at_call 45; refine hcall.mono ?_; rintro e w' ⟨rfl, hb⟩)
        go_ret
        refine ⟨?_, below_then HB.out HB.out.size hb⟩
        rw [Sl.idxI_hit z50 hlt (by rw [HRD.out]; exact hq) HN.out]
        rfl
      | false =>
        rw [hq] at hcall
        go_wp2_with (go_at_call 45; refine hcall.mono ?_; rintro e w' ⟨rfl, hb⟩)
        go_roundg (l0.length - (kk + 1))
        case measure => omega
        case rel =>
          refine ⟨kk + 1, by omega, by omega, by go_num, ⟨below_then HB.out HB.out.size hb⟩, ⟨fun j hj => ?_⟩⟩
          by_cases e : j = kk
          · subst e
            rw [HRD.out]; exact hq
          · exact HN.out j (by omega)
    · have hltz : ¬ (kk : Int) < (l0.length : Int) := by omega
      have : kk = l0.length := by omega
      subst this
      go_wp2
      go_ret
      refine ⟨?_, HB.out⟩
      rw [Sl.idxI_none z50 HN.out]
      rfl

instance inh50 : Inhabited S50 := ⟨z50⟩
def enc50 (x : S50) : List Value := [.string x.f0, .string x.f1]
theorem one50 (x : S50) : ∀ v ∈ enc50 x, v.oneCell' = true := by
  intro v hv
  simp only [enc50, List.mem_cons, List.not_mem_nil, or_false] at hv
  rcases hv with rfl | rfl <;> rfl
set_option maxHeartbeats 8000000 in
set_option maxRecDepth 100000 in
theorem api_Pair_44.any_45 {lb : Array Value} {p : S50 → Bool} (P0_ : Nat → Prop) (u9000_ : Value) (l0 : List (S50)) (w0 w : World) (hB : Below w0.heap.size w0 w) (ho0 : Kd.R k50 50 w w0.heap.size P0_ u9000_ l0) (hlen : l0.length ≤ 9223372036854775807)
    (hp : ∀ (W : World) (x : S50), x ∈ l0 → Kept w W P0_ → Calls Try.prog 45 (#[.agg #[.string x.f0, .string x.f1]] ++ lb) W fun e w' => e = .returned (.bool (p x)) ∧ Below W.heap.size W w') :
    Calls Try.prog 44 #[u9000_, .func (.func 45) #[] lb] w fun e w' => ∃ v0_ : Value, e = .returned (v0_) ∧ Kd.R k50 50 w' w0.heap.size (fun k_ => (P0_ k_ ∨ w.heap.size ≤ k_)) v0_ (l0.filter fun x => !p x) ∧ Below w0.heap.size w0 w' ∧ Kept w w' (fun k_ => P0_ k_) := by
  obtain ⟨A0, c0, rfl⟩ := Kd.R_slice ho0
  obtain ⟨_, hcap, hC⟩ := Kd.R_reads' ho0
  have hIF := api_Pair_62.any_45 (p := p) (lb := lb) A0 c0 l0 w (fun W x hx hb => hp W x hx (Kept.of_below hb _)) hC hcap hlen
  rcases Sl.idxI_cases p l0 z50 with ⟨e1, hall⟩ | ⟨i0, hi0, e1, ht, hn⟩
  · rw [e1] at hIF
    rw [Sl.filter_none z50 hall]
    have HO := Aside0.mk ho0
    have HB := Aside0.mk hB
    clear ho0 hp hC hall hB
    go_enter Try.func44, Try.ntmps44
    go_wp2_with (go_at_call 62; refine hIF.mono ?_; rintro e w' ⟨rfl, hb⟩)
    go_ret
    exact ⟨_, rfl, Kd.R_mono (Kd.R_below HO.out hb) (fun k hk => .inl hk), below_then HB.out HB.out.size hb, Kept.of_below hb _⟩
  · obtain ⟨q, cap, he, hb, hlt, _⟩ := Kd.R_form ho0 (by omega)
    injection he with he1 he2 he3
    subst he1; subst he3
    have hP : P0_ q := ho0.1 q rfl
    have hmx := Kd.C_max hC
    rw [e1] at hIF
    have hne1 : ((i0 : Int) == -1) = false := beq_eq_false_iff_ne.2 (by omega)
    have HO := Aside0.mk ho0
    have HB := Aside0.mk hB
    have HP := Aside0.mk hp
    have HS := Aside0.mk (Sl.DInv.start (p := p) (l := l0) z50 hi0 ht hn)
    clear ho0 hp hC hn ht hB
    go_enter Try.func44, Try.ntmps44
    go_wp2_with (go_at_call 62; refine hIF.mono ?_; rintro e w' ⟨rfl, hb1⟩)
    have n0_ := Aside0.mk (Kd.R_below HO.out hb1)
    have n1_ := Aside0.mk (below_then HB.out HB.out.size hb1)
    have n2_ := Aside0.mk (Kept.of_below hb1 P0_)
    clear hb1 HO HB hIF
    go_loopg [5, 6, 7] l0.length (fun gk v5 v6 _ wr => ∃ (i j : Nat) (ys : List (S50)), v5 = .int .i64 i ∧ v6 = .int .i64 j ∧ j ≤ l0.length ∧ l0.length - j ≤ gk ∧ Aside0 (Kd.R k50 50 wr w0.heap.size P0_ (.slice (some ⟨q, 0, none⟩) l0.length c0) ys) ∧ Aside0 (Below w0.heap.size w0 wr) ∧ Aside0 (Kept w wr P0_) ∧ Aside0 (Sl.DInv p l0 ys i j))
    case atStart => exact ⟨i0, i0 + 1, l0, rfl, by go_num, by omega, by omega, n0_, n1_, n2_, HS⟩
    case round =>
      clear n0_ n1_ n2_ HS
      obtain ⟨i, j, ys, rfl, rfl, hjl, hgk, HO, HB, HK, HI⟩ := hrel
      have hij : i < j := HI.out.2.1
      have hyl : ys.length = l0.length := HI.out.1
      by_cases hlt2 : j < l0.length
      · have hltz : (j : Int) < (l0.length : Int) := by omega
        have hjt : ys.getD j z50 = l0.getD j z50 := by rw [List.getD_eq_getElem?_getD, List.getD_eq_getElem?_getD, HI.out.2.2.2 j (Nat.le_refl _)]
        obtain ⟨ce, hcl, hM, hcc, hfr⟩ := Kd.R_elem HO.out z50 (j : Int) (by omega) hltz
        obtain rfl := k50_openM hM
        rw [Int.toNat_natCast] at hcc hfr
        have hx_0 := hcc 0 _ rfl
        have hx_1 := hcc 1 _ rfl
        simp only [show (k50).sz = 2 from rfl, Nat.add_zero] at hx_0 hx_1
        have hcall := fun W (hk : Kept w W P0_) => HP.out W (ys.getD j z50) (by rw [hjt]; exact Sl.getD_in _ hlt2) hk
        have HJ : Aside0 (ys.getD j z50 = l0.getD j z50) := ⟨hjt⟩
        clear hcl hM hcc hfr hjt
        generalize hy_ : ys.getD j z50 = y at hx_0 hx_1 hcall HJ
        have HYJ := Aside0.mk hy_
        have HC := Aside0.mk hcall
        have HIJ := Aside0.mk hij
        have HYL := Aside0.mk hyl
        have HGK := Aside0.mk hgk
        have HLT := Aside0.mk hlt2
        clear hy_ hcall hij hyl hgk hlt2
        go_upto_region 8 with (first | ((with_reducible refine gate_dst (N := 7) rfl ?_); refine box_event ?hg (N := 7) ?hd (cs := #[.string (⟨#[]⟩ : ByteArray), .string (⟨#[]⟩ : ByteArray)]) (t := 50) ?hr ?_; (case hd => rfl); (case hg => rfl); (case hr => first | (go_simp; done) | (go_simp; rfl)); intro gb hg w14 hbox hbb; have n0_ := Aside0.mk (Kd.R_below HO.out hbb); have n1_ := Aside0.mk (below_then HB.out HB.out.size hbb); have n2_ := Aside0.mk (Kept.below HK.out hbb); have BK := Aside0.mk hbox; have GW := Aside0.mk (by rw [hg]; exact HK.out.1 : w.heap.size ≤ gb); have GE := Aside0.mk (Nat.le_trans HB.out.size (by rw [hg]; exact Nat.le_refl _) : w0.heap.size ≤ gb); have GQ := Aside0.mk (by rw [hg]; have := Kd.R_lt HO.out q rfl; omega : q ≠ gb); replace hx_0 := (hbb.cell (World.block_lt_of_cell? _ _ hx_0)).trans hx_0; replace hx_1 := (hbb.cell (World.block_lt_of_cell? _ _ hx_1)).trans hx_1; clear HO HB HK hbb hbox hg; have HO := n0_; have HB := n1_; have HK := n2_; clear n0_ n1_ n2_; have hcz_0 := (blk_cell BK.out 0).trans rfl; have hcz_1 := (blk_cell BK.out 1).trans rfl; have hfz_0 := blk_frozen BK.out 0; have hfz_1 := blk_frozen BK.out 1; skip))
        have hbs : ∃ W8, (w14.setCell ⟨gb, 0, none⟩ (.string y.f0)).setCell ⟨gb, 1, none⟩ (.string y.f1) = W8 := ⟨_, rfl⟩
        obtain ⟨W8, hW8⟩ := hbs
        rw [hW8]
        have n0_ := Aside0.mk (show Kd.R k50 50 W8 w0.heap.size P0_ (.slice (some ⟨q, 0, none⟩) l0.length c0) ys from by rw [← hW8]; exact (Kd.R_mono (Kd.R_far (p := ⟨gb, 1, none⟩) (Sl.R_but (Kd.R_mono (Kd.R_far (p := ⟨gb, 0, none⟩) (Sl.R_but HO.out rfl GQ.out) (fun _ hk => hk.2) (.string y.f0)) (fun _ hk => hk.1)) rfl GQ.out) (fun _ hk => hk.2) (.string y.f1)) (fun _ hk => hk.1)))
        have n1_ := Aside0.mk (show Below w0.heap.size w0 W8 from by rw [← hW8]; exact (below_set (below_set HB.out GE.out) GE.out))
        have n2_ := Aside0.mk (show Kept w W8 P0_ from by rw [← hW8]; exact (Kept.setCell (Kept.setCell HK.out (p := ⟨gb, 0, none⟩) (.inr GW.out) _) (p := ⟨gb, 1, none⟩) (.inr GW.out) _))
        have n3_ := Aside0.mk (show W8.heap[gb]? = some (.cells #[.string y.f0, .string y.f1] 50 (0, 0)) from by rw [← hW8]; exact (blk_put (cs := #[.string y.f0, .string (⟨#[]⟩ : ByteArray)]) (blk_put (cs := #[.string (⟨#[]⟩ : ByteArray), .string (⟨#[]⟩ : ByteArray)]) BK.out 0 (.string y.f0) rfl) 1 (.string y.f1) rfl))
        clear HO HB HK BK hW8 hx_0 hx_1 hcz_0 hcz_1 hfz_0 hfz_1
        clear w14
        have HO := n0_
        have HB := n1_
        have HK := n2_
        have BK := n3_
        clear n0_ n1_ n2_ n3_
        have h8_0 := (blk_cell BK.out 0).trans rfl
        have h8_1 := (blk_cell BK.out 1).trans rfl
        have hcall := HC.out W8 HK.out
        cases hq : p y with
        | true =>
          rw [hq] at hcall
          have HQ := Aside0.mk hq
          clear hq
          go_wp2_with (go_at_call 45; refine hcall.mono ?_; rintro e w9 ⟨rfl, hb9⟩)
          go_roundg (l0.length - (j + 1))
          case measure => have := HGK.out; have := HLT.out; omega
          case rel =>
            exact ⟨i, j + 1, ys, rfl, by go_num, by have := HLT.out; omega, by omega, ⟨Kd.R_below HO.out hb9⟩, ⟨below_then HB.out HB.out.size hb9⟩, ⟨Kept.below HK.out hb9⟩, ⟨Sl.DInv.skip HI.out z50 HLT.out (by rw [← HJ.out]; exact HQ.out)⟩⟩
        | false =>
          rw [hq] at hcall
          have HQ := Aside0.mk hq
          clear hq
          have hil : i < l0.length := by have := HIJ.out; have := HLT.out; omega
          have hiz : (i : Int) < (l0.length : Int) := by omega
          go_wp2_with (first | (go_at_call 45; refine hcall.mono ?_; rintro e w9 ⟨rfl, hb9⟩; have n0_ := Aside0.mk (Kd.R_below HO.out hb9); have n1_ := Aside0.mk (below_then HB.out HB.out.size hb9); have n2_ := Aside0.mk (Kept.below HK.out hb9); have n3_ := Aside0.mk ((hb9.block gb (blk_lt BK.out)).trans BK.out); clear HO HB HK BK hb9 hcall; have HO := n0_; have HB := n1_; have HK := n2_; have BK := n3_; clear n0_ n1_ n2_ n3_; have h9_0 := (blk_cell BK.out 0).trans rfl; have h9_1 := (blk_cell BK.out 1).trans rfl; obtain ⟨ci, hcli, hMi, hcci, hfri⟩ := Kd.R_elem HO.out z50 (i : Int) (by omega) (by have := HIJ.out; have := HLT.out; omega); have HSG := Aside0.mk (Kd.R_seg (j := 0) (seg := [.string y.f0, .string y.f1]) HO.out (i : Int) (by omega) (by have := HIJ.out; have := HLT.out; omega) hcli hcci (Nat.le_refl _) (x' := y) (okp := fun k => P0_ k ∧ k ≠ q) (by rw [List.take_zero, List.nil_append, List.drop_of_length_le (by rw [hcli]; exact Nat.le_refl _), List.append_nil]; exact k50_mkM _ _ _ y) (fun k hk => hk)); obtain rfl := k50_openM hMi; rw [Int.toNat_natCast] at hcci hfri; have hci_0 := hcci 0 _ rfl; have hfi_0 := hfri 0; have hci_1 := hcci 1 _ rfl; have hfi_1 := hfri 1; simp only [show (k50).sz = 2 from rfl, Nat.add_zero] at hci_0 hfi_0 hci_1 hfi_1; clear hcli hMi hcci hfri))
          have hsg := HSG.out
          rw [Int.toNat_natCast, show (k50).sz = 2 from rfl, Nat.add_zero] at hsg
          have HO2 : Aside0 (Kd.R k50 50 (((w9.setCell ⟨q, i * 2, none⟩ (.string y.f0)).setCell ⟨q, i * 2 + 1, none⟩ (.string y.f1))) w0.heap.size P0_ (.slice (some ⟨q, 0, none⟩) l0.length c0) (ys.set i y)) := ⟨hsg.1⟩
          have HB2 : Aside0 (Below w0.heap.size w0 (((w9.setCell ⟨q, i * 2, none⟩ (.string y.f0)).setCell ⟨q, i * 2 + 1, none⟩ (.string y.f1)))) := ⟨Sl.below_cells hb [.string y.f0, .string y.f1] (i * 2) HB.out⟩
          have HK2 : Aside0 (Kept w (((w9.setCell ⟨q, i * 2, none⟩ (.string y.f0)).setCell ⟨q, i * 2 + 1, none⟩ (.string y.f1))) P0_) := ⟨Sl.kept_cells hP [.string y.f0, .string y.f1] (i * 2) HK.out⟩
          clear hsg HSG
          go_roundg (l0.length - (j + 1))
          case measure => have := HGK.out; have := HLT.out; omega
          case rel =>
            refine ⟨i + 1, j + 1, ys.set i y, by go_num, by go_num, by have := HLT.out; omega, by omega, HO2, HB2, HK2, ⟨?_⟩⟩
            rw [HJ.out]
            exact Sl.DInv.keep HI.out z50 HLT.out (by rw [← HJ.out]; exact HQ.out)
      · obtain rfl : j = l0.length := by omega
        have hltz : ¬ (l0.length : Int) < (l0.length : Int) := by omega
        have hzl : (Builtin.zeroCells (Value.cells (.agg #[(.string ⟨#[]⟩), (.string ⟨#[]⟩)])) (l0.length - i)).toList.length = (l0.length - i) * 2 := by simp [Builtin.zeroCells, Value.cells]
        have hz1 : ∀ v ∈ (Builtin.zeroCells (Value.cells (.agg #[(.string ⟨#[]⟩), (.string ⟨#[]⟩)])) (l0.length - i)).toList, v.oneCell' = true := Sl.zeros_one _ _ (by intro v hv; have hv' : v ∈ enc50 z50 := Array.mem_toList_iff.2 hv; exact one50 _ v hv')
        have hcl : ∀ ty, (Builtin.clear_ #[40] ty #[.slice (some ⟨q, i * 2, none⟩) (l0.length - i) (c0 - i)]).run Try.prog wr = .ok (.tuple #[]) (wr.setCells q (i * 2) (Builtin.zeroCells (Value.cells (.agg #[(.string ⟨#[]⟩), (.string ⟨#[]⟩)])) (l0.length - i)).toList) :=
          fun ty => Sl.run_clear wr 40 50 ty (.agg #[(.string ⟨#[]⟩), (.string ⟨#[]⟩)]) Try.underlying40 Try.zeroValue50 q (i * 2) (l0.length - i) (c0 - i) (by omega) hz1 (fun r hr => (Sl.R_behind HO.out (i * 2 + r) (by rw [hzl] at hr; show _ < l0.length * 2; omega)).1) (fun r hr => (Sl.R_behind HO.out (i * 2 + r) (by rw [hzl] at hr; show _ < l0.length * 2; omega)).2)
        generalize (Builtin.zeroCells (Value.cells (.agg #[(.string ⟨#[]⟩), (.string ⟨#[]⟩)])) (l0.length - i)).toList = zs at hcl
        have HIJ := Aside0.mk hij
        have hcne : ¬ c0 = i := by omega
        have hile : i ≤ l0.length := by omega
        have hize : (i : Int) ≤ (l0.length : Int) := by omega
        have hicc : i ≤ c0 := by omega
        clear hzl hij hyl hgk hlt2 hz1
        go_wp2
        go_ret
        have hT := Kd.R_take (m := i) HO.out (by have := HI.out.1; have := HIJ.out; omega)
        rw [Sl.DInv.done HI.out] at hT
        refine ⟨_, rfl, Kd.R_mono (Sl.R_tails zs (i * 2) hT ?_) (fun k hk => .inl hk), Sl.below_cells hb zs _ HB.out, Sl.kept_cells hP zs _ HK.out⟩
        rw [← Sl.DInv.done HI.out, List.length_take]
        exact Nat.mul_le_mul_right _ (Nat.min_le_left _ _)

set_option maxHeartbeats 4000000 in
set_option maxRecDepth 100000 in
theorem api_Version_37.any_38 {lb : Array Value} {p : S33 → Bool} (A0 : Option Addr) (c0 : Nat) (l0 : List (S33)) (w : World)
    (hp : ∀ (W : World) (x : S33), x ∈ l0 → Below w.heap.size w W → Calls Try.prog 38 (#[.agg #[.int .i64 x.f0, .string x.f1, .bool x.f2]] ++ lb) W fun e w' => e = .returned (.bool (p x)) ∧ Below W.heap.size W w')
    (hr0 : Kd.C k33 w A0 l0.length l0) (hc0 : l0.length ≤ c0) (hlen : l0.length ≤ 9223372036854775807) :
    Calls Try.prog 37 #[.slice A0 l0.length c0, .func (.func 38) #[] lb] w fun e w' => e = .returned (.int .i64 (Sl.idxI p l0)) ∧ Below w.heap.size w w' := by
  have HR0 := Aside0.mk hr0
  have HP := Aside0.mk hp
  clear hr0 hp
  go_enter Try.func37, Try.ntmps37
  go_wp2
  go_loopg [5, 8] l0.length (fun gk _ v8 w' => ∃ kk : Nat, kk ≤ l0.length ∧ l0.length - kk ≤ gk ∧ v8 = .int .i64 kk ∧ Aside0 (Below w.heap.size w w') ∧ Aside0 (∀ j, j < kk → p (l0.getD j z33) = false))
  case atStart => exact ⟨0, Nat.zero_le _, by omega, rfl, ⟨Below.refl _ w⟩, ⟨fun j hj => absurd hj (Nat.not_lt_zero _)⟩⟩
  case round =>
    obtain ⟨kk, hkk, hg, rfl, HB, HN⟩ := hrel
    by_cases hlt : kk < l0.length
    · have hltz : (kk : Int) < (l0.length : Int) := by omega
      obtain ⟨ad, e0, hx_0, hx_1, hx_2⟩ := at_T33 HR0.out (kk : Int) (by omega) hltz
      cases e0
      replace hx_0 := (HB.out.cell (World.block_lt_of_cell? w _ hx_0)).trans hx_0
      replace hx_1 := (HB.out.cell (World.block_lt_of_cell? w _ hx_1)).trans hx_1
      replace hx_2 := (HB.out.cell (World.block_lt_of_cell? w _ hx_2)).trans hx_2
      have hcall := HP.out _ (rd_T33 l0 (kk : Int)) (Sl.getD_in _ hlt) HB.out
      have hrd : rd_T33 l0 (kk : Int) = l0.getD kk z33 := rfl
      simp only [Int.toNat_natCast] at hx_0 hx_1 hx_2
      have HRD : Aside0 (l0.getD kk z33 = rd_T33 l0 (kk : Int)) := ⟨rfl⟩
      clear hrd
      generalize rd_T33 l0 (kk : Int) = y at hx_0 hx_1 hx_2 hcall HRD
      cases hq : p y with
      | true =>
        rw [hq] at hcall
        go_wp2_with (go_at_call 38; refine hcall.mono ?_; rintro e w' ⟨rfl, hb⟩)
        go_ret
        refine ⟨?_, below_then HB.out HB.out.size hb⟩
        rw [Sl.idxI_hit z33 hlt (by rw [HRD.out]; exact hq) HN.out]
        rfl
      | false =>
        rw [hq] at hcall
        go_wp2_with (go_at_call 38; refine hcall.mono ?_; rintro e w' ⟨rfl, hb⟩)
        go_roundg (l0.length - (kk + 1))
        case measure => omega
        case rel =>
          refine ⟨kk + 1, by omega, by omega, by go_num, ⟨below_then HB.out HB.out.size hb⟩, ⟨fun j hj => ?_⟩⟩
          by_cases e : j = kk
          · subst e
            rw [HRD.out]; exact hq
          · exact HN.out j (by omega)
    · have hltz : ¬ (kk : Int) < (l0.length : Int) := by omega
      have : kk = l0.length := by omega
      subst this
      go_wp2
      go_ret
      refine ⟨?_, HB.out⟩
      rw [Sl.idxI_none z33 HN.out]
      rfl

def version_At.f (l0 : List S33) (a1 : Int) : Option (Int × ByteArray × Bool × Bool) := if l0.length ≤ 9223372036854775807 then (if Sl.idxI (fun x => decide (x.f0 ≤ a1)) l0 < 0 then some (0, (⟨#[]⟩ : ByteArray), false, false) else some ((rd_T33 l0 (Sl.idxI (fun x => decide (x.f0 ≤ a1)) l0)).f0, (rd_T33 l0 (Sl.idxI (fun x => decide (x.f0 ≤ a1)) l0)).f1, (rd_T33 l0 (Sl.idxI (fun x => decide (x.f0 ≤ a1)) l0)).f2, true)) else none
set_option maxHeartbeats 2000000 in
set_option maxRecDepth 100000 in
theorem version_At.closure (b : Nat) (x : S33) (key : Int) (W : World) (hc : W.cell? ⟨b, 0, none⟩ = some (.int .i64 key)) :
    Calls Try.prog 38 #[.agg #[.int .i64 x.f0, .string x.f1, .bool x.f2], .pointer (some ⟨b, 0, none⟩)] W fun e w' => e = .returned (.bool (decide (x.f0 ≤ key))) ∧ Below W.heap.size W w' := by
  have hbW : b < W.heap.size := World.block_lt_of_cell? W ⟨b, 0, none⟩ hc
  have hne : b ≠ W.heap.size := by omega
  go_enter Try.func38, Try.ntmps38
  go_wp2
  go_ret
  exact ⟨rfl, (Below.refl _ W).alloc (Nat.le_refl _) _⟩
set_option maxHeartbeats 2000000 in
set_option maxRecDepth 100000 in
theorem version_At.calls (A0 : Option Addr) (c0 : Nat) (l0 : List S33) (a1 : Int) (r1 : Int) (r2 : ByteArray) (r3 r4 : Bool) (w : World) (hr0 : Kd.C k33 w A0 l0.length l0) (hc0 : l0.length ≤ c0) (h : version_At.f l0 a1 = some (r1, r2, r3, r4)) :
    Calls Try.prog 16 #[.slice A0 l0.length c0, .int .i64 a1] w fun e w' => e = .returned (.tuple #[.agg #[.int .i64 r1, .string r2, .bool r3], .bool r4]) ∧ Below w.heap.size w w' := by
  unfold version_At.f at h
  split at h
  · rename_i hl
    have hcon := api_Version_37.any_38 (lb := #[.pointer (some ⟨w.heap.size, 0, none⟩)]) (p := fun x => decide (x.f0 ≤ a1)) A0 c0 l0 ((w.alloc (.cells #[.int .i64 a1] 2)).alloc (.cells #[.int .i64 0, .string (⟨#[]⟩ : ByteArray), .bool false] 33)) (fun W x hx hb => by
      have hcell : W.cell? ⟨w.heap.size, 0, none⟩ = some (.int .i64 a1) := (hb.cell (p := ⟨w.heap.size, 0, none⟩) (by simp; omega)).trans (by simp)
      exact version_At.closure w.heap.size x a1 W hcell) (Kd.C_alloc (Kd.C_alloc hr0 _) _) hc0 hl
    have HI : Sl.idxI (fun x : S33 => decide (x.f0 ≤ a1)) l0 < 0 ∨ ∃ i : Nat, i < l0.length ∧ Sl.idxI (fun x : S33 => decide (x.f0 ≤ a1)) l0 = i := (Sl.idxI_cases _ l0 z33).imp (fun h => by omega) (fun ⟨i, h1, h2, _⟩ => ⟨i, h1, h2⟩)
    generalize Sl.idxI (fun x : S33 => decide (x.f0 ≤ a1)) l0 = i at hcon h HI
    have HR0 := Aside0.mk hr0
    clear hr0
    have hblk : ((w.alloc (.cells #[.int .i64 a1] 2)).alloc (.cells #[.int .i64 0, .string (⟨#[]⟩ : ByteArray), .bool false] 33)).heap[w.heap.size + 1]? = some (.cells #[.int .i64 0, .string (⟨#[]⟩ : ByteArray), .bool false] 33) := by simpa using heap_alloc_new (w.alloc (.cells #[.int .i64 a1] 2)) (.cells #[.int .i64 0, .string (⟨#[]⟩ : ByteArray), .bool false] 33)
    by_cases ci : i < 0
    · rw [if_pos ci] at h
      simp only [Option.some.injEq, Prod.mk.injEq] at h
      obtain ⟨rfl, rfl, rfl, rfl⟩ := h
      have cib : decide (i < 0) = true := decide_eq_true ci
      clear ci HI
      go_enter Try.func16, Try.ntmps16
      go_wp2_with (go_at_call 37; refine hcon.mono ?_; rintro e w' ⟨rfl, hb⟩; have BK := Aside0.mk ((hb.block (w.heap.size + 1) (by simp)).trans hblk); have HB := Aside0.mk (below_then (((Below.refl _ w).alloc (Nat.le_refl _) _).alloc (by simp) _) (by simp; omega) hb); have hz0 : w'.cell? ⟨w.heap.size + 1, 0, none⟩ = some (.int .i64 0) := (blk_cell BK.out 0).trans rfl; have hz1 : w'.cell? ⟨w.heap.size + 1, 1, none⟩ = some (.string (⟨#[]⟩ : ByteArray)) := (blk_cell BK.out 1).trans rfl; have hz2 : w'.cell? ⟨w.heap.size + 1, 2, none⟩ = some (.bool false) := (blk_cell BK.out 2).trans rfl; have hf0 := blk_frozen BK.out 0; have hf1 := blk_frozen BK.out 1; have hf2 := blk_frozen BK.out 2; clear hb hblk hcon)
      refine bodyPost_ret (results_ct rfl _ _ (w.heap.size + 1) 33 #[.int .i64 0, .string (⟨#[]⟩ : ByteArray), .bool false] (0, 0) _ rfl (by refine blk_put (cs := #[.int .i64 0, .string (⟨#[]⟩ : ByteArray), .bool false]) ?_ 2 _ rfl; refine blk_put (cs := #[.int .i64 0, .string (⟨#[]⟩ : ByteArray), .bool false]) ?_ 1 _ rfl; refine blk_put (cs := #[.int .i64 0, .string (⟨#[]⟩ : ByteArray), .bool false]) ?_ 0 _ rfl; exact BK.out) Try.underlying33 rfl (by kernel_rfl)) rfl ?_
      exact ⟨rfl, below_set (below_set (below_set HB.out (Nat.le_succ _)) (Nat.le_succ _)) (Nat.le_succ _)⟩
    · rw [if_neg ci] at h
      simp only [Option.some.injEq, Prod.mk.injEq] at h
      obtain ⟨rfl, rfl, rfl, rfl⟩ := h
      obtain ⟨q, hq, rfl⟩ := HI.resolve_left ci
      have cib : decide ((q : Int) < 0) = false := decide_eq_false ci
      have hqz : (q : Int) < (l0.length : Int) := by omega
      have hq0 : (0 : Int) ≤ q := by omega
      obtain ⟨ad, e0, hx0, hx1, hx2⟩ := at_T33 HR0.out (q : Int) hq0 hqz
      cases e0
      rw [Int.toNat_natCast] at hx0 hx1 hx2
      have hu33 := Try.underlying33
      clear ci HI
      replace hq0 := eq_true hq0
      replace hqz := eq_true hqz
      go_enter Try.func16, Try.ntmps16
      go_wp2_with (go_at_call 37; refine hcon.mono ?_; rintro e w' ⟨rfl, hb⟩; have BK := Aside0.mk ((hb.block (w.heap.size + 1) (by simp)).trans hblk); have HB := Aside0.mk (below_then (((Below.refl _ w).alloc (Nat.le_refl _) _).alloc (by simp) _) (by simp; omega) hb); have hz0 : w'.cell? ⟨w.heap.size + 1, 0, none⟩ = some (.int .i64 0) := (blk_cell BK.out 0).trans rfl; have hz1 : w'.cell? ⟨w.heap.size + 1, 1, none⟩ = some (.string (⟨#[]⟩ : ByteArray)) := (blk_cell BK.out 1).trans rfl; have hz2 : w'.cell? ⟨w.heap.size + 1, 2, none⟩ = some (.bool false) := (blk_cell BK.out 2).trans rfl; have hf0 := blk_frozen BK.out 0; have hf1 := blk_frozen BK.out 1; have hf2 := blk_frozen BK.out 2; replace hx0 := (HB.out.cell (World.block_lt_of_cell? w _ hx0)).trans hx0; replace hx1 := (HB.out.cell (World.block_lt_of_cell? w _ hx1)).trans hx1; replace hx2 := (HB.out.cell (World.block_lt_of_cell? w _ hx2)).trans hx2; clear hb hblk hcon)
      refine bodyPost_ret (results_ct rfl _ _ (w.heap.size + 1) 33 #[.int .i64 (rd_T33 l0 (q : Int)).f0, .string (rd_T33 l0 (q : Int)).f1, .bool (rd_T33 l0 (q : Int)).f2] (0, 0) _ rfl (by refine blk_put (cs := #[.int .i64 (rd_T33 l0 (q : Int)).f0, .string (rd_T33 l0 (q : Int)).f1, .bool false]) ?_ 2 _ rfl; refine blk_put (cs := #[.int .i64 (rd_T33 l0 (q : Int)).f0, .string (⟨#[]⟩ : ByteArray), .bool false]) ?_ 1 _ rfl; refine blk_put (cs := #[.int .i64 0, .string (⟨#[]⟩ : ByteArray), .bool false]) ?_ 0 _ rfl; exact BK.out) Try.underlying33 rfl (by kernel_rfl)) rfl ?_
      exact ⟨rfl, below_set (below_set (below_set HB.out (Nat.le_succ _)) (Nat.le_succ _)) (Nat.le_succ _)⟩
  · cases h

def version_Value.f (l0 : List (S33)) (a1 : Int) : Option (ByteArray × Bool) := (version_At.f l0 a1).bind fun bt125 => (if bt125.2.2.2 = true then (if bt125.2.2.1 = true then (some ((⟨#[]⟩ : ByteArray), false)) else (some (bt125.2.1, true))) else (some ((⟨#[]⟩ : ByteArray), false)))
set_option maxHeartbeats 8000000 in
set_option maxRecDepth 100000 in
theorem version_Value.calls (A0 : Option Addr) (c0 : Nat) (l0 : List (S33)) (a1 : Int) (r1 : ByteArray) (r2 : Bool) (w : World) (hr0 : Kd.C k33 w A0 l0.length l0) (hc0 : l0.length ≤ c0) (h : version_Value.f l0 a1 = some (r1, r2)) :
    Calls Try.prog 13 #[.slice A0 l0.length c0, .int .i64 a1] w fun e w' => e = .returned (.tuple #[.string r1, .bool r2]) ∧ Below w.heap.size w w' := by
 have hu33 := Try.underlying33
 have HR0 := Aside0.mk hr0
 have HC0 := Aside0.mk hc0
 clear hr0 hc0
 have HB := Aside0.mk (Below.refl w.heap.size w)
 have H : ((version_At.f l0 a1).bind fun bt125 => (if bt125.2.2.2 = true then (if bt125.2.2.1 = true then (some ((⟨#[]⟩ : ByteArray), false)) else (some (bt125.2.1, true))) else (some ((⟨#[]⟩ : ByteArray), false)))) = some (r1, r2) := h
 clear h
 replace H := Option.bind_eq_some_iff.mp H
 obtain ⟨⟨t125, t126, t127, t128⟩, A30, H⟩ := H
 replace H : (if t128 = true then (if t127 = true then (some ((⟨#[]⟩ : ByteArray), false)) else (some (t126, true))) else (some ((⟨#[]⟩ : ByteArray), false))) = some (r1, r2) := H
 have A3 := Aside0.mk A30
 clear A30
 by_cases c4 : t128 = true
 ·
  subst c4
  have H1 : (if t127 = true then (some ((⟨#[]⟩ : ByteArray), false)) else (some (t126, true))) = some (r1, r2) := by rw [if_pos rfl] at H; first | done | exact H
  clear H
  have H := H1
  clear H1
  by_cases c5 : t127 = true
  ·
   subst c5
   have H1 : (some ((⟨#[]⟩ : ByteArray), false)) = some (r1, r2) := by rw [if_pos rfl] at H; first | done | exact H
   clear H
   have H := H1
   clear H1
   simp only [Option.some.injEq, Prod.mk.injEq] at H
   obtain ⟨rfl, rfl⟩ := H
   go_enter Try.func13, Try.ntmps13
   go_wp2_with (first | ((with_reducible refine gate_callee (f := 16) rfl ?_); refine goesL_ (some 11) rfl rfl Try.func16 (by kernel_rfl) rfl #[.slice A0 l0.length c0, .int .i64 a1] rfl (by (try simp only [List.map_toArray, List.map_cons, List.map_nil]); first | done | rfl | (simp only [List.length_drop, List.length_take]; rfl)) ?_; (with_reducible refine (version_At.calls _ _ l0 a1 t125 t126 true true _ ?side1 ?side2 A3.out).mono ?_); (case side1 => repeat (first | exact HR0.out | (with_reducible refine Kd.C_alloc ?_ _) | (with_reducible refine Kd.C_drewN ?_ _) | (with_reducible refine Kd.C_drew ?_))); (case side2 => exact HC0.out); rintro e w6 ⟨rfl, hb⟩; refine ⟨_, rfl, ?_⟩; have n0_ := Aside0.mk (below_step (by repeat (first | (with_reducible first | exact HB.out | apply below_alloc | apply pw_below_drewN | apply below_drew1) | exact HB.out)) hb); clear HB; have HB := n0_; clear n0_; (try clear hb); (try clear hb2); (try clear hk); (try clear hi)) | ((with_reducible refine gate_dst (N := 6) rfl ?_); refine box_event ?hg (N := 6) ?hd (cs := #[.int .i64 0, .string (⟨#[]⟩ : ByteArray), .bool false]) (t := 33) ?hr ?_; (case hd => rfl); (case hg => rfl); (case hr => first | (go_simp; done) | (go_simp; rfl)); intro gb129 hg w7 hbox hb; have n0_ := Aside0.mk (below_step (by repeat (first | (with_reducible first | exact HB.out | apply below_alloc | apply pw_below_drewN | apply below_drew1) | exact HB.out)) hb); have n1_ := Aside0.mk (hbox); have n2_ := Aside0.mk ((by rw [hg]; exact (below_size (by repeat (first | (with_reducible first | exact HB.out | apply below_alloc | apply pw_below_drewN | apply below_drew1) | exact HB.out))) : w.heap.size ≤ gb129)); have n3_ := Aside0.mk ((by rw [hg]; exact (below_size (by repeat (first | (with_reducible first | exact HB.out | apply below_alloc | apply pw_below_drewN | apply below_drew1) | exact HB.out))) : w.heap.size ≤ gb129)); clear HB; have HB := n0_; have BK129 := n1_; have GW129 := n2_; have GE129 := n3_; clear n0_ n1_ n2_ n3_; clear hb hbox hg; have hcz8_0 : w7.cell? ⟨gb129, 0, none⟩ = some (.int .i64 0) := (blk_cell BK129.out 0).trans rfl; have hcz8_1 : w7.cell? ⟨gb129, 1, none⟩ = some (.string (⟨#[]⟩ : ByteArray)) := (blk_cell BK129.out 1).trans rfl; have hcz8_2 : w7.cell? ⟨gb129, 2, none⟩ = some (.bool false) := (blk_cell BK129.out 2).trans rfl; have hfz8_0 := blk_frozen BK129.out 0; have hfz8_1 := blk_frozen BK129.out 1; have hfz8_2 := blk_frozen BK129.out 2))
   go_ret2
   exact ⟨by first | rfl | (simp [errW_none, errW_some] <;> rfl) | (simp [*, errW_none, errW_some] <;> rfl), by repeat (first | (with_reducible first | exact HB.out | apply below_alloc | apply pw_below_drewN | apply below_drew1 | refine below_set ?_ GE129.out) | exact HB.out)⟩
  ·
   replace c5 := Bool.eq_false_iff.mpr c5
   subst c5
   have H1 : (some (t126, true)) = some (r1, r2) := by rw [if_neg (show ¬ (false = true) by decide)] at H; first | done | exact H
   clear H
   have H := H1
   clear H1
   simp only [Option.some.injEq, Prod.mk.injEq] at H
   obtain ⟨rfl, rfl⟩ := H
   go_enter Try.func13, Try.ntmps13
   go_wp2_with (first | ((with_reducible refine gate_callee (f := 16) rfl ?_); refine goesL_ (some 11) rfl rfl Try.func16 (by kernel_rfl) rfl #[.slice A0 l0.length c0, .int .i64 a1] rfl (by (try simp only [List.map_toArray, List.map_cons, List.map_nil]); first | done | rfl | (simp only [List.length_drop, List.length_take]; rfl)) ?_; (with_reducible refine (version_At.calls _ _ l0 a1 t125 t126 false true _ ?side1 ?side2 A3.out).mono ?_); (case side1 => repeat (first | exact HR0.out | (with_reducible refine Kd.C_alloc ?_ _) | (with_reducible refine Kd.C_drewN ?_ _) | (with_reducible refine Kd.C_drew ?_))); (case side2 => exact HC0.out); rintro e w9 ⟨rfl, hb⟩; refine ⟨_, rfl, ?_⟩; have n0_ := Aside0.mk (below_step (by repeat (first | (with_reducible first | exact HB.out | apply below_alloc | apply pw_below_drewN | apply below_drew1) | exact HB.out)) hb); clear HB; have HB := n0_; clear n0_; (try clear hb); (try clear hb2); (try clear hk); (try clear hi)) | ((with_reducible refine gate_dst (N := 6) rfl ?_); refine box_event ?hg (N := 6) ?hd (cs := #[.int .i64 0, .string (⟨#[]⟩ : ByteArray), .bool false]) (t := 33) ?hr ?_; (case hd => rfl); (case hg => rfl); (case hr => first | (go_simp; done) | (go_simp; rfl)); intro gb129 hg w10 hbox hb; have n0_ := Aside0.mk (below_step (by repeat (first | (with_reducible first | exact HB.out | apply below_alloc | apply pw_below_drewN | apply below_drew1) | exact HB.out)) hb); have n1_ := Aside0.mk (hbox); have n2_ := Aside0.mk ((by rw [hg]; exact (below_size (by repeat (first | (with_reducible first | exact HB.out | apply below_alloc | apply pw_below_drewN | apply below_drew1) | exact HB.out))) : w.heap.size ≤ gb129)); have n3_ := Aside0.mk ((by rw [hg]; exact (below_size (by repeat (first | (with_reducible first | exact HB.out | apply below_alloc | apply pw_below_drewN | apply below_drew1) | exact HB.out))) : w.heap.size ≤ gb129)); clear HB; have HB := n0_; have BK129 := n1_; have GW129 := n2_; have GE129 := n3_; clear n0_ n1_ n2_ n3_; clear hb hbox hg; have hcz11_0 : w10.cell? ⟨gb129, 0, none⟩ = some (.int .i64 0) := (blk_cell BK129.out 0).trans rfl; have hcz11_1 : w10.cell? ⟨gb129, 1, none⟩ = some (.string (⟨#[]⟩ : ByteArray)) := (blk_cell BK129.out 1).trans rfl; have hcz11_2 : w10.cell? ⟨gb129, 2, none⟩ = some (.bool false) := (blk_cell BK129.out 2).trans rfl; have hfz11_0 := blk_frozen BK129.out 0; have hfz11_1 := blk_frozen BK129.out 1; have hfz11_2 := blk_frozen BK129.out 2))
   go_ret2
   exact ⟨by first | rfl | (simp [errW_none, errW_some] <;> rfl) | (simp [*, errW_none, errW_some] <;> rfl), by repeat (first | (with_reducible first | exact HB.out | apply below_alloc | apply pw_below_drewN | apply below_drew1 | refine below_set ?_ GE129.out) | exact HB.out)⟩
 ·
  replace c4 := Bool.eq_false_iff.mpr c4
  subst c4
  have H1 : (some ((⟨#[]⟩ : ByteArray), false)) = some (r1, r2) := by rw [if_neg (show ¬ (false = true) by decide)] at H; first | done | exact H
  clear H
  have H := H1
  clear H1
  simp only [Option.some.injEq, Prod.mk.injEq] at H
  obtain ⟨rfl, rfl⟩ := H
  go_enter Try.func13, Try.ntmps13
  go_wp2_with (first | ((with_reducible refine gate_callee (f := 16) rfl ?_); refine goesL_ (some 11) rfl rfl Try.func16 (by kernel_rfl) rfl #[.slice A0 l0.length c0, .int .i64 a1] rfl (by (try simp only [List.map_toArray, List.map_cons, List.map_nil]); first | done | rfl | (simp only [List.length_drop, List.length_take]; rfl)) ?_; (with_reducible refine (version_At.calls _ _ l0 a1 t125 t126 t127 false _ ?side1 ?side2 A3.out).mono ?_); (case side1 => repeat (first | exact HR0.out | (with_reducible refine Kd.C_alloc ?_ _) | (with_reducible refine Kd.C_drewN ?_ _) | (with_reducible refine Kd.C_drew ?_))); (case side2 => exact HC0.out); rintro e w12 ⟨rfl, hb⟩; refine ⟨_, rfl, ?_⟩; have n0_ := Aside0.mk (below_step (by repeat (first | (with_reducible first | exact HB.out | apply below_alloc | apply pw_below_drewN | apply below_drew1) | exact HB.out)) hb); clear HB; have HB := n0_; clear n0_; (try clear hb); (try clear hb2); (try clear hk); (try clear hi)) | ((with_reducible refine gate_dst (N := 6) rfl ?_); refine box_event ?hg (N := 6) ?hd (cs := #[.int .i64 0, .string (⟨#[]⟩ : ByteArray), .bool false]) (t := 33) ?hr ?_; (case hd => rfl); (case hg => rfl); (case hr => first | (go_simp; done) | (go_simp; rfl)); intro gb129 hg w13 hbox hb; have n0_ := Aside0.mk (below_step (by repeat (first | (with_reducible first | exact HB.out | apply below_alloc | apply pw_below_drewN | apply below_drew1) | exact HB.out)) hb); have n1_ := Aside0.mk (hbox); have n2_ := Aside0.mk ((by rw [hg]; exact (below_size (by repeat (first | (with_reducible first | exact HB.out | apply below_alloc | apply pw_below_drewN | apply below_drew1) | exact HB.out))) : w.heap.size ≤ gb129)); have n3_ := Aside0.mk ((by rw [hg]; exact (below_size (by repeat (first | (with_reducible first | exact HB.out | apply below_alloc | apply pw_below_drewN | apply below_drew1) | exact HB.out))) : w.heap.size ≤ gb129)); clear HB; have HB := n0_; have BK129 := n1_; have GW129 := n2_; have GE129 := n3_; clear n0_ n1_ n2_ n3_; clear hb hbox hg; have hcz14_0 : w13.cell? ⟨gb129, 0, none⟩ = some (.int .i64 0) := (blk_cell BK129.out 0).trans rfl; have hcz14_1 : w13.cell? ⟨gb129, 1, none⟩ = some (.string (⟨#[]⟩ : ByteArray)) := (blk_cell BK129.out 1).trans rfl; have hcz14_2 : w13.cell? ⟨gb129, 2, none⟩ = some (.bool false) := (blk_cell BK129.out 2).trans rfl; have hfz14_0 := blk_frozen BK129.out 0; have hfz14_1 := blk_frozen BK129.out 1; have hfz14_2 := blk_frozen BK129.out 2))
  go_ret2
  exact ⟨by first | rfl | (simp [errW_none, errW_some] <;> rfl) | (simp [*, errW_none, errW_some] <;> rfl), by repeat (first | (with_reducible first | exact HB.out | apply below_alloc | apply pw_below_drewN | apply below_drew1 | refine below_set ?_ GE129.out) | exact HB.out)⟩

end Go.Proofs.Ytpakolohhoegfaa.B

/-
Of the row RecordOne: printed walks and plain laws, merged (wip/claim2.py).
-/
import Derived.Test.YtkcdmoghnoodmaaQRecordOne3
import Derived.Test.YtkcdmoghnoodmaaQRecordOne4
import Derived.Test.YtkcdmoghnoodmaaQRecordOne6
import Derived.Test.YtkcdmoghnoodmaaQRecordOne7
import Derived.Test.YtkcdmoghnoodmaaQRecordOne8
import Derived.Test.YtkcdmoghnoodmaaQRecordOne9
import Derived.Test.YtkcdmoghnoodmaaQRecordOne10
namespace Go.Proofs.Ytkcdmoghnoodmaa.B
open Go.RowKit Go.Proofs.YtkcdmoghnoodmaaW.PrintWords Go.Proofs.YtkcdmoghnoodmaaW.PrintLast Go.Proofs.YtkcdmoghnoodmaaW.PrintMore Go.Proofs.YtkcdmoghnoodmaaW.Mine
attribute [local go_sem] max2_int min2_int max_two min_two max_three min_three max_four min_four str_gtr str_leq str_geq str_max str_min   -- for this text's walks alone
set_option linter.unusedVariables false
set_option linter.unusedSimpArgs false

mutual
def cressetlaw03_RecordOne.j0 : Nat → List Int → Option (Bool)
  | 0, _ => none
  | k + 1, x0 => (record_TakeChunk.f k x0).bind fun bt763 => (if bt763.2.2.2 = 0 then ((record_Chunk.f k bt763.1 bt763.2.1 bt763.2.2.1).bind fun bt770 => (if bt770.2 = 0 then ((bytes_Equal.f bt770.1 x0).bind fun t774 => (if t774 = true then (cressetlaw03_RecordOne.j1 k x0) else (some false))) else (some false))) else (cressetlaw03_RecordOne.j1 k x0))
def cressetlaw03_RecordOne.j1 : Nat → List Int → Option (Bool)
  | 0, _ => none
  | k + 1, x0 => (record_TakeMaster.f k x0).bind fun bt775 => (if bt775.2.2.2.2.2.2.2.2 = 0 then ((record_Master.f k bt775.1 bt775.2.1 bt775.2.2.1 bt775.2.2.2.1 bt775.2.2.2.2.1 bt775.2.2.2.2.2.1 bt775.2.2.2.2.2.2.1 bt775.2.2.2.2.2.2.2.1).bind fun bt785 => (if bt785.2 = 0 then ((bytes_Equal.f bt785.1 x0).bind fun t789 => (if t789 = true then ((cressetlaw03_live.f k).bind fun t790 => (some t790)) else (some false))) else (some false))) else ((cressetlaw03_live.f k).bind fun t791 => (some t791)))
end
def cressetlaw03_RecordOne.f (k : Nat) (l0 : List Int) : Option (Bool) := (record_TakeCommit.f k l0).bind fun bt752 => (if bt752.2.2 = 0 then ((record_Commit.f k bt752.1 bt752.2.1).bind fun bt758 => (if bt758.2 = 0 then ((bytes_Equal.f bt758.1 l0).bind fun t762 => (if t762 = true then (cressetlaw03_RecordOne.j0 k l0) else (some false))) else (some false))) else (cressetlaw03_RecordOne.j0 k l0))
set_option maxHeartbeats 8000000 in
set_option maxRecDepth 100000 in
theorem cressetlaw03_RecordOne.calls (k : Nat) (A0 : Option Addr) (c0 : Nat) (l0 : List Int) (w : World) (hr0 : Kd.C (Kd.int .u8) w A0 l0.length l0) (hc0 : l0.length ≤ c0) (h : cressetlaw03_RecordOne.f k l0 = some true) :
    Calls Try.prog 8 #[.slice A0 l0.length c0] w fun e w' => e = .returned (.bool true) ∧ Below w.heap.size w w' := by
 have hu24 := Try.underlying24
 have hu27 := Try.underlying27
 have hu31 := Try.underlying31
 have HR0 := Aside0.mk hr0
 have HC0 := Aside0.mk hc0
 clear hr0 hc0
 have HB := Aside0.mk (Below.refl w.heap.size w)
 have H : ((record_TakeCommit.f k l0).bind fun bt752 => (if bt752.2.2 = 0 then ((record_Commit.f k bt752.1 bt752.2.1).bind fun bt758 => (if bt758.2 = 0 then ((bytes_Equal.f bt758.1 l0).bind fun t762 => (if t762 = true then (cressetlaw03_RecordOne.j0 k l0) else (some false))) else (some false))) else (cressetlaw03_RecordOne.j0 k l0))) = some true := h
 clear h
 replace H := Option.bind_eq_some_iff.mp H
 obtain ⟨⟨t752, t753, t756⟩, A20, H⟩ := H
 replace H : (if t756 = 0 then ((record_Commit.f k t752 t753).bind fun bt758 => (if bt758.2 = 0 then ((bytes_Equal.f bt758.1 l0).bind fun t762 => (if t762 = true then (cressetlaw03_RecordOne.j0 k l0) else (some false))) else (some false))) else (cressetlaw03_RecordOne.j0 k l0)) = some true := H
 have A2 := Aside0.mk A20
 clear A20
 have HC3 := Aside0.mk H
 clear H
 go_enter Try.func8, Try.ntmps8
 go_upto_if 21 with (first | ((with_reducible refine gate_callee (f := 31) rfl ?_); refine goesL_ (some 17) rfl rfl Try.func31 (by kernel_rfl) rfl #[.slice A0 l0.length c0] rfl (by (try simp only [List.map_toArray, List.map_cons, List.map_nil]); first | done | rfl | (simp only [List.length_drop, List.length_take]; rfl)) ?_; (with_reducible refine (record_TakeCommit.calls k _ _ l0 t752 t753 t756 _ ?side1 ?side2 A2.out).mono ?_); (case side1 => repeat (first | exact HR0.out | (with_reducible refine Kd.C_alloc ?_ _) | (with_reducible refine Kd.C_drewN ?_ _) | (with_reducible refine Kd.C_drew ?_))); (case side2 => exact HC0.out); rintro e w4 ⟨v754, rfl, ho0, hb⟩; refine ⟨_, rfl, ?_⟩; have n0_ := Aside0.mk (Kd.R_lower ho0 (below_size (by repeat (first | (with_reducible first | exact HB.out | apply below_alloc | apply pw_below_drewN | apply below_drew1) | exact HB.out)))); have n1_ := Aside0.mk (below_step (by repeat (first | (with_reducible first | exact HB.out | apply below_alloc | apply pw_below_drewN | apply below_drew1) | exact HB.out)) hb); clear HB; have HO755 := n0_; have HB := n1_; clear n0_ n1_; (try clear hb); (try clear hb2); (try clear hk); (try clear hi); (try clear ho0)) | ((with_reducible refine gate_dst (N := 3) rfl ?_); refine box_event ?hg (N := 3) ?hd (cs := #[.int .i64 0, .slice none 0 0]) (t := 24) ?hr ?_; (case hd => rfl); (case hg => rfl); (case hr => first | (go_simp; done) | (go_simp; rfl)); intro gb757 hg w5 hbox hb; have n0_ := Aside0.mk (Kd.R_below (by (with_reducible repeat (first | apply Kd.R_alloc | apply Kd.R_drewN | apply Kd.R_drew)); exact HO755.out) hb); have n1_ := Aside0.mk (below_step (by repeat (first | (with_reducible first | exact HB.out | apply below_alloc | apply pw_below_drewN | apply below_drew1) | exact HB.out)) hb); have n2_ := Aside0.mk (hbox); have n3_ := Aside0.mk ((by rw [hg]; exact (below_size (by repeat (first | (with_reducible first | exact HB.out | apply below_alloc | apply pw_below_drewN | apply below_drew1) | exact HB.out))) : w.heap.size ≤ gb757)); have n4_ := Aside0.mk ((by rw [hg]; exact (below_size (by repeat (first | (with_reducible first | exact HB.out | apply below_alloc | apply pw_below_drewN | apply below_drew1) | exact HB.out))) : w.heap.size ≤ gb757)); clear HO755; clear HB; have HO755 := n0_; have HB := n1_; have BK757 := n2_; have GW757 := n3_; have GE757 := n4_; clear n0_ n1_ n2_ n3_ n4_; clear hb hbox hg; have hcz6_0 : w5.cell? ⟨gb757, 0, none⟩ = some (.int .i64 0) := (blk_cell BK757.out 0).trans rfl; have hcz6_1 : w5.cell? ⟨gb757, 1, none⟩ = some (.slice none 0 0) := (blk_cell BK757.out 1).trans rfl; have hfz6_0 := blk_frozen BK757.out 0; have hfz6_1 := blk_frozen BK757.out 1; obtain ⟨Ao7, co7, eo7⟩ := Kd.R_slice HO755.out; subst eo7))
 (try simp only [Act.put, List.setIfInBounds_toArray, List.set_cons_zero, List.set_cons_succ])
 go_cut [] (fun wc => ∃ (kq : Nat), Aside0 (cressetlaw03_RecordOne.j0 kq l0 = some true) ∧ Aside0 (kq ≤ k) ∧ Aside0 (Kd.R k33 33 wc w.heap.size (fun _ => True) (.slice Ao7 t753.length co7) t753) ∧ Aside0 (wc.heap[gb757]? = some (.cells #[.int .i64 t752, (.slice Ao7 t753.length co7)] 24 (0, 0))) ∧ Aside0 (Below w.heap.size w wc))
 case first =>
  have H := HC3.out
  clear HC3
  by_cases c8 : t756 = 0
  ·
   rw [if_pos c8] at H
   have c8b0 : (t756 == 0) = true := beq_iff_eq.mpr c8
   have c8b1 : (t756 != 0) = false := bne_eq_false_iff_eq.mpr c8
   clear c8
   (first | rw [c8b0] | (simp only [i64_w, i32_w]; rw [c8b0]) | skip)
   replace H := Option.bind_eq_some_iff.mp H
   obtain ⟨⟨t758, t761⟩, A90, H⟩ := H
   replace H : (if t761 = 0 then ((bytes_Equal.f t758 l0).bind fun t762 => (if t762 = true then (cressetlaw03_RecordOne.j0 k l0) else (some false))) else (some false)) = some true := H
   have A9 := Aside0.mk A90
   clear A90
   by_cases c10 : t761 = 0
   ·
    rw [if_pos c10] at H
    have c10b0 : (t761 == 0) = true := beq_iff_eq.mpr c10
    have c10b1 : (t761 != 0) = false := bne_eq_false_iff_eq.mpr c10
    clear c10
    replace H := Option.bind_eq_some_iff.mp H
    obtain ⟨t762, A110, H⟩ := H
    replace H : (if t762 = true then (cressetlaw03_RecordOne.j0 k l0) else (some false)) = some true := H
    have A11 := Aside0.mk A110
    clear A110
    by_cases c12 : t762 = true
    ·
     subst c12
     have H1 : (cressetlaw03_RecordOne.j0 k l0) = some true := by rw [if_pos rfl] at H; first | done | exact H
     clear H
     have H := H1
     clear H1
     have H' := Aside0.mk H
     clear H
     have hcz13_0 : w5.cell? ⟨gb757, 0, none⟩ = some (.int .i64 0) := (blk_cell BK757.out 0).trans rfl
     have hcz13_1 : w5.cell? ⟨gb757, 1, none⟩ = some (.slice none 0 0) := (blk_cell BK757.out 1).trans rfl
     have hfz13_0 := blk_frozen BK757.out 0
     have hfz13_1 := blk_frozen BK757.out 1
     go_wp2_with (first | ((with_reducible refine gate_callee (f := 24) rfl ?_); refine goesL_ (some 24) rfl rfl Try.func24 (by kernel_rfl) rfl #[.agg #[.int .i64 t752, .slice Ao7 t753.length co7]] rfl (by (try simp only [List.map_toArray, List.map_cons, List.map_nil]); first | done | rfl | (simp only [List.length_drop, List.length_take]; rfl)) ?_; (with_reducible refine (record_Commit.calls k t752 _ _ t753 t758 t761 _ ?side1 ?side2 A9.out).mono ?_); (case side1 => refine (Kd.R_reads' (e := 33) (base := w.heap.size) (ok := fun k_ => True) (n := t753.length) (c := co7) ?_).2.2; exact (by (with_reducible repeat (first | apply Kd.R_alloc | apply Kd.R_drewN | apply Kd.R_drew)); exact (Kd.R_mono (Kd.R_far (p := ⟨gb757, 1, none⟩) (Kd.R_far (p := ⟨gb757, 0, none⟩) (Kd.R_types HO755.out BK757.out (by decide)) (fun _ hk => hk.2) (.int .i64 t752)) (fun _ hk => hk.2) (.slice Ao7 t753.length co7)) (fun _ h_ => h_.1)))); (case side2 => exact (Kd.R_reads' HO755.out).2.1); rintro e w14 ⟨v759, rfl, ho0, hb⟩; refine ⟨_, rfl, ?_⟩; have n0_ := Aside0.mk (Kd.R_below (by (with_reducible repeat (first | apply Kd.R_alloc | apply Kd.R_drewN | apply Kd.R_drew)); exact (Kd.R_mono (Kd.R_far (p := ⟨gb757, 1, none⟩) (Kd.R_far (p := ⟨gb757, 0, none⟩) (Kd.R_types HO755.out BK757.out (by decide)) (fun _ hk => hk.2) (.int .i64 t752)) (fun _ hk => hk.2) (.slice Ao7 t753.length co7)) (fun _ h_ => h_.1))) hb); have n1_ := Aside0.mk (Kd.R_lower ho0 (below_size (by repeat (first | (with_reducible first | exact HB.out | apply below_alloc | apply pw_below_drewN | apply below_drew1 | refine below_set ?_ GE757.out) | exact HB.out)))); have n2_ := Aside0.mk (blk_below (g := gb757) (o := .cells #[.int .i64 t752, .slice Ao7 t753.length co7] 24 (0, 0)) (by (with_reducible repeat (first | refine blk_drewN ?_ _ | refine blk_drew ?_ | refine blk_alloc ?_ _)); refine blk_put (cs := #[.int .i64 t752, .slice none 0 0]) ?_ 1 _ rfl; (with_reducible repeat (first | refine blk_drewN ?_ _ | refine blk_drew ?_ | refine blk_alloc ?_ _)); refine blk_put (cs := #[.int .i64 0, .slice none 0 0]) ?_ 0 _ rfl; (with_reducible repeat (first | refine blk_drewN ?_ _ | refine blk_drew ?_ | refine blk_alloc ?_ _)); exact BK757.out) hb); have n3_ := Aside0.mk (below_step (by repeat (first | (with_reducible first | exact HB.out | apply below_alloc | apply pw_below_drewN | apply below_drew1 | refine below_set ?_ GE757.out) | exact HB.out)) hb); clear HO755; clear BK757; clear HB; have HO755 := n0_; have HO760 := n1_; have BK757 := n2_; have HB := n3_; clear n0_ n1_ n2_ n3_; (try clear hb); (try clear hb2); (try clear hk); (try clear hi); (try clear ho0); obtain ⟨Ao15, co15, eo15⟩ := Kd.R_slice HO760.out; subst eo15) | (go_at_call 30; (with_reducible refine (bytes_Equal.calls _ _ t758 _ _ l0 true _ ?side1 ?side2 ?side3 ?side4 A11.out).mono ?_); (case side1 => repeat (first | exact (Kd.R_reads' HO760.out).2.2 | (with_reducible refine Kd.C_alloc ?_ _) | (with_reducible refine Kd.C_drewN ?_ _) | (with_reducible refine Kd.C_drew ?_))); (case side2 => exact (Kd.R_reads' HO760.out).2.1); (case side3 => repeat (first | exact (Kd.C_below HR0.out HB.out) | (with_reducible refine Kd.C_alloc ?_ _) | (with_reducible refine Kd.C_drewN ?_ _) | (with_reducible refine Kd.C_drew ?_))); (case side4 => exact HC0.out); rintro e w' ⟨rfl, ⟨nd, rfl⟩⟩))
     go_meet
     case rel => exact ⟨_, H', ⟨by first | omega | exact Nat.le_refl _⟩, ⟨by (with_reducible repeat (first | apply Kd.R_alloc | apply Kd.R_drewN | apply Kd.R_drew)); exact HO755.out⟩, ⟨by (with_reducible repeat (first | refine blk_drewN ?_ _ | refine blk_drew ?_ | refine blk_alloc ?_ _)); exact BK757.out⟩, ⟨by repeat (first | (with_reducible first | exact HB.out | apply below_alloc | apply pw_below_drewN | apply below_drew1 | refine below_set ?_ GE757.out) | exact HB.out)⟩⟩
    ·
     replace c12 := Bool.eq_false_iff.mpr c12
     subst c12
     have H1 : (some false) = some true := by rw [if_neg (show ¬ (false = true) by decide)] at H; first | done | exact H
     clear H
     have H := H1
     clear H1
     exact absurd H (by simp)
   ·
    rw [if_neg c10] at H
    have c10b0 : (t761 == 0) = false := beq_eq_false_iff_ne.mpr c10
    have c10b1 : (t761 != 0) = true := bne_iff_ne.mpr c10
    exact absurd H (by simp)
  ·
   rw [if_neg c8] at H
   have c8b0 : (t756 == 0) = false := beq_eq_false_iff_ne.mpr c8
   have c8b1 : (t756 != 0) = true := bne_iff_ne.mpr c8
   (first | rw [c8b0] | (simp only [i64_w, i32_w]; rw [c8b0]) | skip)
   have H' := Aside0.mk H
   clear H
   go_wp2
   go_meet
   case rel => exact ⟨_, H', ⟨by first | omega | exact Nat.le_refl _⟩, ⟨by (with_reducible repeat (first | apply Kd.R_alloc | apply Kd.R_drewN | apply Kd.R_drew)); exact Kd.R_mono (Kd.R_far (p := ⟨gb757, 1, none⟩) (Kd.R_far (p := ⟨gb757, 0, none⟩) (Kd.R_types HO755.out BK757.out (by decide)) (fun _ hk => hk.2) (.int .i64 t752)) (fun _ hk => hk.2) (.slice Ao7 t753.length co7)) (fun _ hk => trivial)⟩, ⟨by (with_reducible repeat (first | refine blk_drewN ?_ _ | refine blk_drew ?_ | refine blk_alloc ?_ _)); refine blk_put (cs := #[.int .i64 t752, .slice none 0 0]) ?_ 1 _ rfl; (with_reducible repeat (first | refine blk_drewN ?_ _ | refine blk_drew ?_ | refine blk_alloc ?_ _)); refine blk_put (cs := #[.int .i64 0, .slice none 0 0]) ?_ 0 _ rfl; (with_reducible repeat (first | refine blk_drewN ?_ _ | refine blk_drew ?_ | refine blk_alloc ?_ _)); exact BK757.out⟩, ⟨by repeat (first | (with_reducible first | exact HB.out | apply below_alloc | apply pw_below_drewN | apply below_drew1 | refine below_set ?_ GE757.out) | exact HB.out)⟩⟩
 case rest =>
  clear HC3
  try clear c1
  try clear c2
  try clear p2
  try clear c3
  try clear c8
  try clear c8b0
  try clear c8b1
  try clear c10
  try clear c10b0
  try clear c10b1
  try clear c12
  try clear hcz13_0
  try clear hcz13_1
  try clear hcz6_0
  try clear hcz6_1
  try clear hfz13_0
  try clear hfz13_1
  try clear hfz6_0
  try clear hfz6_1
  obtain ⟨kq, HA, HJ2, HO_758001, BK757, HB⟩ := hcut
  cases kq with
  | zero => exact absurd HA.out (by simp [cressetlaw03_RecordOne.j0])
  | succ kj2 =>
   have H := HA.out
   clear HA
   simp only [cressetlaw03_RecordOne.j0] at H
   replace H := Option.bind_eq_some_iff.mp H
   obtain ⟨⟨t763, t764, t767, t768⟩, A160, H⟩ := H
   replace H : (if t768 = 0 then ((record_Chunk.f kj2 t763 t764 t767).bind fun bt770 => (if bt770.2 = 0 then ((bytes_Equal.f bt770.1 l0).bind fun t774 => (if t774 = true then (cressetlaw03_RecordOne.j1 kj2 l0) else (some false))) else (some false))) else (cressetlaw03_RecordOne.j1 kj2 l0)) = some true := H
   have A16 := Aside0.mk A160
   clear A160
   have HC17 := Aside0.mk H
   clear H
   go_upto_if 41 with (first | ((with_reducible refine gate_callee (f := 38) rfl ?_); refine goesL_ (some 37) rfl rfl Try.func38 (by kernel_rfl) rfl #[.slice A0 l0.length c0] rfl (by (try simp only [List.map_toArray, List.map_cons, List.map_nil]); first | done | rfl | (simp only [List.length_drop, List.length_take]; rfl)) ?_; (with_reducible refine (record_TakeChunk.calls kj2 _ _ l0 t763 t764 t767 t768 _ ?side1 ?side2 A16.out).mono ?_); (case side1 => repeat (first | exact (Kd.C_below HR0.out HB.out) | (with_reducible refine Kd.C_alloc ?_ _) | (with_reducible refine Kd.C_drewN ?_ _) | (with_reducible refine Kd.C_drew ?_))); (case side2 => exact HC0.out); rintro e w18 ⟨v765, rfl, ho0, hb⟩; refine ⟨_, rfl, ?_⟩; have n0_ := Aside0.mk (Kd.R_below (by (with_reducible repeat (first | apply Kd.R_alloc | apply Kd.R_drewN | apply Kd.R_drew)); exact HO_758001.out) hb); have n1_ := Aside0.mk (Kd.R_lower ho0 (below_size (by repeat (first | (with_reducible first | exact HB.out | apply below_alloc | apply pw_below_drewN | apply below_drew1 | refine below_set ?_ GE757.out) | exact HB.out)))); have n2_ := Aside0.mk (blk_below (g := gb757) (o := .cells #[.int .i64 t752, .slice Ao7 t753.length co7] 24 (0, 0)) (by (with_reducible repeat (first | refine blk_drewN ?_ _ | refine blk_drew ?_ | refine blk_alloc ?_ _)); exact BK757.out) hb); have n3_ := Aside0.mk (below_step (by repeat (first | (with_reducible first | exact HB.out | apply below_alloc | apply pw_below_drewN | apply below_drew1 | refine below_set ?_ GE757.out) | exact HB.out)) hb); clear HO_758001; clear BK757; clear HB; have HO_758001 := n0_; have HO766 := n1_; have BK757 := n2_; have HB := n3_; clear n0_ n1_ n2_ n3_; (try clear hb); (try clear hb2); (try clear hk); (try clear hi); (try clear ho0)) | ((with_reducible refine gate_dst (N := 7) rfl ?_); refine box_event ?hg (N := 7) ?hd (cs := #[.int .i64 0, .slice none 0 0, .bool false]) (t := 27) ?hr ?_; (case hd => rfl); (case hg => rfl); (case hr => first | (go_simp; done) | (go_simp; rfl)); intro gb769 hg w19 hbox hb; have n0_ := Aside0.mk (Kd.R_below (by (with_reducible repeat (first | apply Kd.R_alloc | apply Kd.R_drewN | apply Kd.R_drew)); exact HO_758001.out) hb); have n1_ := Aside0.mk (Kd.R_below (by (with_reducible repeat (first | apply Kd.R_alloc | apply Kd.R_drewN | apply Kd.R_drew)); exact HO766.out) hb); have n2_ := Aside0.mk (blk_below (g := gb757) (o := .cells #[.int .i64 t752, .slice Ao7 t753.length co7] 24 (0, 0)) (by (with_reducible repeat (first | refine blk_drewN ?_ _ | refine blk_drew ?_ | refine blk_alloc ?_ _)); exact BK757.out) hb); have n3_ := Aside0.mk (below_step (by repeat (first | (with_reducible first | exact HB.out | apply below_alloc | apply pw_below_drewN | apply below_drew1 | refine below_set ?_ GE757.out) | exact HB.out)) hb); have n4_ := Aside0.mk (hbox); have n5_ := Aside0.mk ((by rw [hg]; exact (below_size (by repeat (first | (with_reducible first | exact HB.out | apply below_alloc | apply pw_below_drewN | apply below_drew1 | refine below_set ?_ GE757.out) | exact HB.out))) : w.heap.size ≤ gb769)); have n6_ := Aside0.mk ((by rw [hg]; exact (below_size (by repeat (first | (with_reducible first | exact HB.out | apply below_alloc | apply pw_below_drewN | apply below_drew1 | refine below_set ?_ GE757.out) | exact HB.out))) : w.heap.size ≤ gb769)); have n7_ := Aside0.mk ((by rw [hg]; exact Nat.ne_of_lt (blk_lt (g := gb757) (o := .cells #[.int .i64 t752, .slice Ao7 t753.length co7] 24 (0, 0)) (by (with_reducible repeat (first | refine blk_drewN ?_ _ | refine blk_drew ?_ | refine blk_alloc ?_ _)); exact BK757.out)) : gb757 ≠ gb769)); have n8_ := Aside0.mk ((by rw [hg]; exact Nat.ne_of_gt (blk_lt (g := gb757) (o := .cells #[.int .i64 t752, .slice Ao7 t753.length co7] 24 (0, 0)) (by (with_reducible repeat (first | refine blk_drewN ?_ _ | refine blk_drew ?_ | refine blk_alloc ?_ _)); exact BK757.out)) : gb769 ≠ gb757)); clear HO_758001; clear HO766; clear BK757; clear HB; have HO_758001 := n0_; have HO766 := n1_; have BK757 := n2_; have HB := n3_; have BK769 := n4_; have GW769 := n5_; have GE769 := n6_; have NB757_769 := n7_; have NB769_757 := n8_; clear n0_ n1_ n2_ n3_ n4_ n5_ n6_ n7_ n8_; clear hb hbox hg; have hnb20 := NB769_757.out; have hnc20 := NB757_769.out; have hcz21_0 : w19.cell? ⟨gb769, 0, none⟩ = some (.int .i64 0) := (blk_cell BK769.out 0).trans rfl; have hcz21_1 : w19.cell? ⟨gb769, 1, none⟩ = some (.slice none 0 0) := (blk_cell BK769.out 1).trans rfl; have hcz21_2 : w19.cell? ⟨gb769, 2, none⟩ = some (.bool false) := (blk_cell BK769.out 2).trans rfl; have hfz21_0 := blk_frozen BK769.out 0; have hfz21_1 := blk_frozen BK769.out 1; have hfz21_2 := blk_frozen BK769.out 2; obtain ⟨Ao22, co22, eo22⟩ := Kd.R_slice HO766.out; subst eo22))
   (try simp only [Act.put, List.setIfInBounds_toArray, List.set_cons_zero, List.set_cons_succ])
   go_cut [] (fun wc => ∃ (kq : Nat), Aside0 (cressetlaw03_RecordOne.j1 kq l0 = some true) ∧ Aside0 (kq ≤ kj2) ∧ Aside0 (Kd.R k33 33 wc w.heap.size (fun _ => True) (.slice Ao7 t753.length co7) t753) ∧ Aside0 (Kd.R k74 74 wc w.heap.size (fun _ => True) (.slice Ao22 t764.length co22) t764) ∧ Aside0 (wc.heap[gb757]? = some (.cells #[.int .i64 t752, (.slice Ao7 t753.length co7)] 24 (0, 0))) ∧ Aside0 (wc.heap[gb769]? = some (.cells #[.int .i64 t763, (.slice Ao22 t764.length co22), .bool t767] 27 (0, 0))) ∧ Aside0 (Below w.heap.size w wc))
   case first =>
    have H := HC17.out
    clear HC17
    by_cases c23 : t768 = 0
    ·
     rw [if_pos c23] at H
     have c23b0 : (t768 == 0) = true := beq_iff_eq.mpr c23
     have c23b1 : (t768 != 0) = false := bne_eq_false_iff_eq.mpr c23
     clear c23
     (first | rw [c23b0] | (simp only [i64_w, i32_w]; rw [c23b0]) | skip)
     replace H := Option.bind_eq_some_iff.mp H
     obtain ⟨⟨t770, t773⟩, A240, H⟩ := H
     replace H : (if t773 = 0 then ((bytes_Equal.f t770 l0).bind fun t774 => (if t774 = true then (cressetlaw03_RecordOne.j1 kj2 l0) else (some false))) else (some false)) = some true := H
     have A24 := Aside0.mk A240
     clear A240
     by_cases c25 : t773 = 0
     ·
      rw [if_pos c25] at H
      have c25b0 : (t773 == 0) = true := beq_iff_eq.mpr c25
      have c25b1 : (t773 != 0) = false := bne_eq_false_iff_eq.mpr c25
      clear c25
      replace H := Option.bind_eq_some_iff.mp H
      obtain ⟨t774, A260, H⟩ := H
      replace H : (if t774 = true then (cressetlaw03_RecordOne.j1 kj2 l0) else (some false)) = some true := H
      have A26 := Aside0.mk A260
      clear A260
      by_cases c27 : t774 = true
      ·
       subst c27
       have H1 : (cressetlaw03_RecordOne.j1 kj2 l0) = some true := by rw [if_pos rfl] at H; first | done | exact H
       clear H
       have H := H1
       clear H1
       have H' := Aside0.mk H
       clear H
       have hnb28 := NB769_757.out
       have hnc28 := NB757_769.out
       have hcz29_0 : w19.cell? ⟨gb769, 0, none⟩ = some (.int .i64 0) := (blk_cell BK769.out 0).trans rfl
       have hcz29_1 : w19.cell? ⟨gb769, 1, none⟩ = some (.slice none 0 0) := (blk_cell BK769.out 1).trans rfl
       have hcz29_2 : w19.cell? ⟨gb769, 2, none⟩ = some (.bool false) := (blk_cell BK769.out 2).trans rfl
       have hfz29_0 := blk_frozen BK769.out 0
       have hfz29_1 := blk_frozen BK769.out 1
       have hfz29_2 := blk_frozen BK769.out 2
       go_wp2_with (first | ((with_reducible refine gate_callee (f := 26) rfl ?_); refine goesL_ (some 44) rfl rfl Try.func26 (by kernel_rfl) rfl #[.agg #[.int .i64 t763, .slice Ao22 t764.length co22, .bool t767]] rfl (by (try simp only [List.map_toArray, List.map_cons, List.map_nil]); first | done | rfl | (simp only [List.length_drop, List.length_take]; rfl)) ?_; (with_reducible refine (record_Chunk.calls kj2 t763 _ _ t764 t767 t770 t773 _ ?side1 ?side2 A24.out).mono ?_); (case side1 => refine (Kd.R_reads' (e := 74) (base := w.heap.size) (ok := fun k_ => True) (n := t764.length) (c := co22) ?_).2.2; exact (by (with_reducible repeat (first | apply Kd.R_alloc | apply Kd.R_drewN | apply Kd.R_drew)); exact (Kd.R_mono (Kd.R_far (p := ⟨gb769, 2, none⟩) (Kd.R_far (p := ⟨gb769, 1, none⟩) (Kd.R_far (p := ⟨gb769, 0, none⟩) (Kd.R_types HO766.out BK769.out (by decide)) (fun _ hk => hk.2) (.int .i64 t763)) (fun _ hk => hk.2) (.slice Ao22 t764.length co22)) (fun _ hk => hk.2) (.bool t767)) (fun _ h_ => h_.1)))); (case side2 => exact (Kd.R_reads' HO766.out).2.1); rintro e w30 ⟨v771, rfl, ho0, hb⟩; refine ⟨_, rfl, ?_⟩; have n0_ := Aside0.mk (Kd.R_below (by (with_reducible repeat (first | apply Kd.R_alloc | apply Kd.R_drewN | apply Kd.R_drew)); exact (Kd.R_mono (Kd.R_far (p := ⟨gb769, 2, none⟩) (Kd.R_far (p := ⟨gb769, 1, none⟩) (Kd.R_far (p := ⟨gb769, 0, none⟩) (Kd.R_types HO_758001.out BK769.out (by decide)) (fun _ hk => hk.2) (.int .i64 t763)) (fun _ hk => hk.2) (.slice Ao22 t764.length co22)) (fun _ hk => hk.2) (.bool t767)) (fun _ h_ => h_.1))) hb); have n1_ := Aside0.mk (Kd.R_below (by (with_reducible repeat (first | apply Kd.R_alloc | apply Kd.R_drewN | apply Kd.R_drew)); exact (Kd.R_mono (Kd.R_far (p := ⟨gb769, 2, none⟩) (Kd.R_far (p := ⟨gb769, 1, none⟩) (Kd.R_far (p := ⟨gb769, 0, none⟩) (Kd.R_types HO766.out BK769.out (by decide)) (fun _ hk => hk.2) (.int .i64 t763)) (fun _ hk => hk.2) (.slice Ao22 t764.length co22)) (fun _ hk => hk.2) (.bool t767)) (fun _ h_ => h_.1))) hb); have n2_ := Aside0.mk (Kd.R_lower ho0 (below_size (by repeat (first | (with_reducible first | exact HB.out | apply below_alloc | apply pw_below_drewN | apply below_drew1 | refine below_set ?_ GE757.out | refine below_set ?_ GE769.out) | exact HB.out)))); have n3_ := Aside0.mk (blk_below (g := gb757) (o := .cells #[.int .i64 t752, .slice Ao7 t753.length co7] 24 (0, 0)) (by (with_reducible repeat (first | refine blk_drewN ?_ _ | refine blk_drew ?_ | refine blk_alloc ?_ _)); refine blk_far ?_ NB757_769.out _; (with_reducible repeat (first | refine blk_drewN ?_ _ | refine blk_drew ?_ | refine blk_alloc ?_ _)); refine blk_far ?_ NB757_769.out _; (with_reducible repeat (first | refine blk_drewN ?_ _ | refine blk_drew ?_ | refine blk_alloc ?_ _)); refine blk_far ?_ NB757_769.out _; (with_reducible repeat (first | refine blk_drewN ?_ _ | refine blk_drew ?_ | refine blk_alloc ?_ _)); exact BK757.out) hb); have n4_ := Aside0.mk (blk_below (g := gb769) (o := .cells #[.int .i64 t763, .slice Ao22 t764.length co22, .bool t767] 27 (0, 0)) (by (with_reducible repeat (first | refine blk_drewN ?_ _ | refine blk_drew ?_ | refine blk_alloc ?_ _)); refine blk_put (cs := #[.int .i64 t763, .slice Ao22 t764.length co22, .bool false]) ?_ 2 _ rfl; (with_reducible repeat (first | refine blk_drewN ?_ _ | refine blk_drew ?_ | refine blk_alloc ?_ _)); refine blk_put (cs := #[.int .i64 t763, .slice none 0 0, .bool false]) ?_ 1 _ rfl; (with_reducible repeat (first | refine blk_drewN ?_ _ | refine blk_drew ?_ | refine blk_alloc ?_ _)); refine blk_put (cs := #[.int .i64 0, .slice none 0 0, .bool false]) ?_ 0 _ rfl; (with_reducible repeat (first | refine blk_drewN ?_ _ | refine blk_drew ?_ | refine blk_alloc ?_ _)); exact BK769.out) hb); have n5_ := Aside0.mk (below_step (by repeat (first | (with_reducible first | exact HB.out | apply below_alloc | apply pw_below_drewN | apply below_drew1 | refine below_set ?_ GE757.out | refine below_set ?_ GE769.out) | exact HB.out)) hb); clear HO_758001; clear HO766; clear BK757; clear BK769; clear HB; have HO_758001 := n0_; have HO766 := n1_; have HO772 := n2_; have BK757 := n3_; have BK769 := n4_; have HB := n5_; clear n0_ n1_ n2_ n3_ n4_ n5_; (try clear hb); (try clear hb2); (try clear hk); (try clear hi); (try clear ho0); obtain ⟨Ao31, co31, eo31⟩ := Kd.R_slice HO772.out; subst eo31) | (go_at_call 30; (with_reducible refine (bytes_Equal.calls _ _ t770 _ _ l0 true _ ?side1 ?side2 ?side3 ?side4 A26.out).mono ?_); (case side1 => repeat (first | exact (Kd.R_reads' HO772.out).2.2 | (with_reducible refine Kd.C_alloc ?_ _) | (with_reducible refine Kd.C_drewN ?_ _) | (with_reducible refine Kd.C_drew ?_))); (case side2 => exact (Kd.R_reads' HO772.out).2.1); (case side3 => repeat (first | exact (Kd.C_below HR0.out HB.out) | (with_reducible refine Kd.C_alloc ?_ _) | (with_reducible refine Kd.C_drewN ?_ _) | (with_reducible refine Kd.C_drew ?_))); (case side4 => exact HC0.out); rintro e w' ⟨rfl, ⟨nd, rfl⟩⟩))
       go_meet
       case rel => exact ⟨_, H', ⟨by have := HJ2.out; first | omega | exact Nat.le_refl _⟩, ⟨by (with_reducible repeat (first | apply Kd.R_alloc | apply Kd.R_drewN | apply Kd.R_drew)); exact HO_758001.out⟩, ⟨by (with_reducible repeat (first | apply Kd.R_alloc | apply Kd.R_drewN | apply Kd.R_drew)); exact HO766.out⟩, ⟨by (with_reducible repeat (first | refine blk_drewN ?_ _ | refine blk_drew ?_ | refine blk_alloc ?_ _)); exact BK757.out⟩, ⟨by (with_reducible repeat (first | refine blk_drewN ?_ _ | refine blk_drew ?_ | refine blk_alloc ?_ _)); exact BK769.out⟩, ⟨by repeat (first | (with_reducible first | exact HB.out | apply below_alloc | apply pw_below_drewN | apply below_drew1 | refine below_set ?_ GE757.out | refine below_set ?_ GE769.out) | exact HB.out)⟩⟩
      ·
       replace c27 := Bool.eq_false_iff.mpr c27
       subst c27
       have H1 : (some false) = some true := by rw [if_neg (show ¬ (false = true) by decide)] at H; first | done | exact H
       clear H
       have H := H1
       clear H1
       exact absurd H (by simp)
     ·
      rw [if_neg c25] at H
      have c25b0 : (t773 == 0) = false := beq_eq_false_iff_ne.mpr c25
      have c25b1 : (t773 != 0) = true := bne_iff_ne.mpr c25
      exact absurd H (by simp)
    ·
     rw [if_neg c23] at H
     have c23b0 : (t768 == 0) = false := beq_eq_false_iff_ne.mpr c23
     have c23b1 : (t768 != 0) = true := bne_iff_ne.mpr c23
     (first | rw [c23b0] | (simp only [i64_w, i32_w]; rw [c23b0]) | skip)
     have H' := Aside0.mk H
     clear H
     go_wp2
     go_meet
     case rel => exact ⟨_, H', ⟨by have := HJ2.out; first | omega | exact Nat.le_refl _⟩, ⟨by (with_reducible repeat (first | apply Kd.R_alloc | apply Kd.R_drewN | apply Kd.R_drew)); exact Kd.R_mono (Kd.R_far (p := ⟨gb769, 2, none⟩) (Kd.R_far (p := ⟨gb769, 1, none⟩) (Kd.R_far (p := ⟨gb769, 0, none⟩) (Kd.R_types HO_758001.out BK769.out (by decide)) (fun _ hk => hk.2) (.int .i64 t763)) (fun _ hk => hk.2) (.slice Ao22 t764.length co22)) (fun _ hk => hk.2) (.bool t767)) (fun _ hk => trivial)⟩, ⟨by (with_reducible repeat (first | apply Kd.R_alloc | apply Kd.R_drewN | apply Kd.R_drew)); exact Kd.R_mono (Kd.R_far (p := ⟨gb769, 2, none⟩) (Kd.R_far (p := ⟨gb769, 1, none⟩) (Kd.R_far (p := ⟨gb769, 0, none⟩) (Kd.R_types HO766.out BK769.out (by decide)) (fun _ hk => hk.2) (.int .i64 t763)) (fun _ hk => hk.2) (.slice Ao22 t764.length co22)) (fun _ hk => hk.2) (.bool t767)) (fun _ hk => trivial)⟩, ⟨by (with_reducible repeat (first | refine blk_drewN ?_ _ | refine blk_drew ?_ | refine blk_alloc ?_ _)); refine blk_far ?_ NB757_769.out _; (with_reducible repeat (first | refine blk_drewN ?_ _ | refine blk_drew ?_ | refine blk_alloc ?_ _)); refine blk_far ?_ NB757_769.out _; (with_reducible repeat (first | refine blk_drewN ?_ _ | refine blk_drew ?_ | refine blk_alloc ?_ _)); refine blk_far ?_ NB757_769.out _; (with_reducible repeat (first | refine blk_drewN ?_ _ | refine blk_drew ?_ | refine blk_alloc ?_ _)); exact BK757.out⟩, ⟨by (with_reducible repeat (first | refine blk_drewN ?_ _ | refine blk_drew ?_ | refine blk_alloc ?_ _)); refine blk_put (cs := #[.int .i64 t763, .slice Ao22 t764.length co22, .bool false]) ?_ 2 _ rfl; (with_reducible repeat (first | refine blk_drewN ?_ _ | refine blk_drew ?_ | refine blk_alloc ?_ _)); refine blk_put (cs := #[.int .i64 t763, .slice none 0 0, .bool false]) ?_ 1 _ rfl; (with_reducible repeat (first | refine blk_drewN ?_ _ | refine blk_drew ?_ | refine blk_alloc ?_ _)); refine blk_put (cs := #[.int .i64 0, .slice none 0 0, .bool false]) ?_ 0 _ rfl; (with_reducible repeat (first | refine blk_drewN ?_ _ | refine blk_drew ?_ | refine blk_alloc ?_ _)); exact BK769.out⟩, ⟨by repeat (first | (with_reducible first | exact HB.out | apply below_alloc | apply pw_below_drewN | apply below_drew1 | refine below_set ?_ GE757.out | refine below_set ?_ GE769.out) | exact HB.out)⟩⟩
   case rest =>
    clear HC17
    try clear c1
    try clear c2
    try clear p2
    try clear c3
    try clear c8
    try clear c8b0
    try clear c8b1
    try clear c10
    try clear c10b0
    try clear c10b1
    try clear c12
    try clear c20
    try clear c23
    try clear c23b0
    try clear c23b1
    try clear c24
    try clear c25
    try clear c25b0
    try clear c25b1
    try clear c26
    try clear c27
    try clear c28
    try clear c31
    try clear hcz13_0
    try clear hcz13_1
    try clear hcz21_0
    try clear hcz21_1
    try clear hcz21_2
    try clear hcz29_0
    try clear hcz29_1
    try clear hcz29_2
    try clear hcz6_0
    try clear hcz6_1
    try clear hfz13_0
    try clear hfz13_1
    try clear hfz21_0
    try clear hfz21_1
    try clear hfz21_2
    try clear hfz29_0
    try clear hfz29_1
    try clear hfz29_2
    try clear hfz6_0
    try clear hfz6_1
    try clear p2
    obtain ⟨kq, HA, HJ16, HO_758001, HO_770001, BK757, BK769, HB⟩ := hcut
    cases kq with
    | zero => exact absurd HA.out (by simp [cressetlaw03_RecordOne.j1])
    | succ kj16 =>
     have H := HA.out
     clear HA
     simp only [cressetlaw03_RecordOne.j1] at H
     replace H := Option.bind_eq_some_iff.mp H
     obtain ⟨⟨t775, t776, t777, t778, t779, t780, t781, t782, t783⟩, A320, H⟩ := H
     replace H : (if t783 = 0 then ((record_Master.f kj16 t775 t776 t777 t778 t779 t780 t781 t782).bind fun bt785 => (if bt785.2 = 0 then ((bytes_Equal.f bt785.1 l0).bind fun t789 => (if t789 = true then ((cressetlaw03_live.f kj16).bind fun t790 => (some t790)) else (some false))) else (some false))) else ((cressetlaw03_live.f kj16).bind fun t791 => (some t791))) = some true := H
     have A32 := Aside0.mk A320
     clear A320
     by_cases c33 : t783 = 0
     ·
      rw [if_pos c33] at H
      have c33b0 : (t783 == 0) = true := beq_iff_eq.mpr c33
      have c33b1 : (t783 != 0) = false := bne_eq_false_iff_eq.mpr c33
      clear c33
      replace H := Option.bind_eq_some_iff.mp H
      obtain ⟨⟨t785, t788⟩, A340, H⟩ := H
      replace H : (if t788 = 0 then ((bytes_Equal.f t785 l0).bind fun t789 => (if t789 = true then ((cressetlaw03_live.f kj16).bind fun t790 => (some t790)) else (some false))) else (some false)) = some true := H
      have A34 := Aside0.mk A340
      clear A340
      by_cases c35 : t788 = 0
      ·
       rw [if_pos c35] at H
       have c35b0 : (t788 == 0) = true := beq_iff_eq.mpr c35
       have c35b1 : (t788 != 0) = false := bne_eq_false_iff_eq.mpr c35
       clear c35
       replace H := Option.bind_eq_some_iff.mp H
       obtain ⟨t789, A360, H⟩ := H
       replace H : (if t789 = true then ((cressetlaw03_live.f kj16).bind fun t790 => (some t790)) else (some false)) = some true := H
       have A36 := Aside0.mk A360
       clear A360
       by_cases c37 : t789 = true
       ·
        subst c37
        have H1 : ((cressetlaw03_live.f kj16).bind fun t790 => (some t790)) = some true := by rw [if_pos rfl] at H; first | done | exact H
        clear H
        have H := H1
        clear H1
        replace H := Option.bind_eq_some_iff.mp H
        obtain ⟨t790, A380, H⟩ := H
        replace H : (some t790) = some true := H
        have A38 := Aside0.mk A380
        clear A380
        have HRT := Aside0.mk (Option.some.inj H)
        clear H
        go_wp2_with (first | ((with_reducible refine gate_callee (f := 40) rfl ?_); refine goesL_ (some 57) rfl rfl Try.func40 (by kernel_rfl) rfl #[.slice A0 l0.length c0] rfl (by (try simp only [List.map_toArray, List.map_cons, List.map_nil]); first | done | rfl | (simp only [List.length_drop, List.length_take]; rfl)) ?_; (with_reducible refine (record_TakeMaster.calls kj16 _ _ l0 t775 t776 t777 t778 t779 t780 t781 t782 t783 _ ?side1 ?side2 A32.out).mono ?_); (case side1 => repeat (first | exact (Kd.C_below HR0.out HB.out) | (with_reducible refine Kd.C_alloc ?_ _) | (with_reducible refine Kd.C_drewN ?_ _) | (with_reducible refine Kd.C_drew ?_))); (case side2 => exact HC0.out); rintro e w39 ⟨rfl, hb⟩; refine ⟨_, rfl, ?_⟩; have n0_ := Aside0.mk (Kd.R_below (by (with_reducible repeat (first | apply Kd.R_alloc | apply Kd.R_drewN | apply Kd.R_drew)); exact HO_758001.out) hb); have n1_ := Aside0.mk (Kd.R_below (by (with_reducible repeat (first | apply Kd.R_alloc | apply Kd.R_drewN | apply Kd.R_drew)); exact HO_770001.out) hb); have n2_ := Aside0.mk (blk_below (g := gb757) (o := .cells #[.int .i64 t752, .slice Ao7 t753.length co7] 24 (0, 0)) (by (with_reducible repeat (first | refine blk_drewN ?_ _ | refine blk_drew ?_ | refine blk_alloc ?_ _)); exact BK757.out) hb); have n3_ := Aside0.mk (blk_below (g := gb769) (o := .cells #[.int .i64 t763, .slice Ao22 t764.length co22, .bool t767] 27 (0, 0)) (by (with_reducible repeat (first | refine blk_drewN ?_ _ | refine blk_drew ?_ | refine blk_alloc ?_ _)); exact BK769.out) hb); have n4_ := Aside0.mk (below_step (by repeat (first | (with_reducible first | exact HB.out | apply below_alloc | apply pw_below_drewN | apply below_drew1 | refine below_set ?_ GE757.out | refine below_set ?_ GE769.out) | exact HB.out)) hb); clear HO_758001; clear HO_770001; clear BK757; clear BK769; clear HB; have HO_758001 := n0_; have HO_770001 := n1_; have BK757 := n2_; have BK769 := n3_; have HB := n4_; clear n0_ n1_ n2_ n3_ n4_; (try clear hb); (try clear hb2); (try clear hk); (try clear hi)) | ((with_reducible refine gate_dst (N := 11) rfl ?_); refine box_event ?hg (N := 11) ?hd (cs := #[.int .i64 0, .int .i64 0, .int .i64 0, .int .i64 0, .int .i64 0, .int .i64 0, .int .i64 0, .int .i64 0]) (t := 31) ?hr ?_; (case hd => rfl); (case hg => rfl); (case hr => first | (go_simp; done) | (go_simp; rfl)); intro gb784 hg w40 hbox hb; have n0_ := Aside0.mk (Kd.R_below (by (with_reducible repeat (first | apply Kd.R_alloc | apply Kd.R_drewN | apply Kd.R_drew)); exact HO_758001.out) hb); have n1_ := Aside0.mk (Kd.R_below (by (with_reducible repeat (first | apply Kd.R_alloc | apply Kd.R_drewN | apply Kd.R_drew)); exact HO_770001.out) hb); have n2_ := Aside0.mk (blk_below (g := gb757) (o := .cells #[.int .i64 t752, .slice Ao7 t753.length co7] 24 (0, 0)) (by (with_reducible repeat (first | refine blk_drewN ?_ _ | refine blk_drew ?_ | refine blk_alloc ?_ _)); exact BK757.out) hb); have n3_ := Aside0.mk (blk_below (g := gb769) (o := .cells #[.int .i64 t763, .slice Ao22 t764.length co22, .bool t767] 27 (0, 0)) (by (with_reducible repeat (first | refine blk_drewN ?_ _ | refine blk_drew ?_ | refine blk_alloc ?_ _)); exact BK769.out) hb); have n4_ := Aside0.mk (below_step (by repeat (first | (with_reducible first | exact HB.out | apply below_alloc | apply pw_below_drewN | apply below_drew1 | refine below_set ?_ GE757.out | refine below_set ?_ GE769.out) | exact HB.out)) hb); have n5_ := Aside0.mk (hbox); have n6_ := Aside0.mk ((by rw [hg]; exact (below_size (by repeat (first | (with_reducible first | exact HB.out | apply below_alloc | apply pw_below_drewN | apply below_drew1 | refine below_set ?_ GE757.out | refine below_set ?_ GE769.out) | exact HB.out))) : w.heap.size ≤ gb784)); have n7_ := Aside0.mk ((by rw [hg]; exact (below_size (by repeat (first | (with_reducible first | exact HB.out | apply below_alloc | apply pw_below_drewN | apply below_drew1 | refine below_set ?_ GE757.out | refine below_set ?_ GE769.out) | exact HB.out))) : w.heap.size ≤ gb784)); have n8_ := Aside0.mk ((by rw [hg]; exact Nat.ne_of_lt (blk_lt (g := gb757) (o := .cells #[.int .i64 t752, .slice Ao7 t753.length co7] 24 (0, 0)) (by (with_reducible repeat (first | refine blk_drewN ?_ _ | refine blk_drew ?_ | refine blk_alloc ?_ _)); exact BK757.out)) : gb757 ≠ gb784)); have n9_ := Aside0.mk ((by rw [hg]; exact Nat.ne_of_gt (blk_lt (g := gb757) (o := .cells #[.int .i64 t752, .slice Ao7 t753.length co7] 24 (0, 0)) (by (with_reducible repeat (first | refine blk_drewN ?_ _ | refine blk_drew ?_ | refine blk_alloc ?_ _)); exact BK757.out)) : gb784 ≠ gb757)); have n10_ := Aside0.mk ((by rw [hg]; exact Nat.ne_of_lt (blk_lt (g := gb769) (o := .cells #[.int .i64 t763, .slice Ao22 t764.length co22, .bool t767] 27 (0, 0)) (by (with_reducible repeat (first | refine blk_drewN ?_ _ | refine blk_drew ?_ | refine blk_alloc ?_ _)); exact BK769.out)) : gb769 ≠ gb784)); have n11_ := Aside0.mk ((by rw [hg]; exact Nat.ne_of_gt (blk_lt (g := gb769) (o := .cells #[.int .i64 t763, .slice Ao22 t764.length co22, .bool t767] 27 (0, 0)) (by (with_reducible repeat (first | refine blk_drewN ?_ _ | refine blk_drew ?_ | refine blk_alloc ?_ _)); exact BK769.out)) : gb784 ≠ gb769)); clear HO_758001; clear HO_770001; clear BK757; clear BK769; clear HB; have HO_758001 := n0_; have HO_770001 := n1_; have BK757 := n2_; have BK769 := n3_; have HB := n4_; have BK784 := n5_; have GW784 := n6_; have GE784 := n7_; have NB757_784 := n8_; have NB784_757 := n9_; have NB769_784 := n10_; have NB784_769 := n11_; clear n0_ n1_ n2_ n3_ n4_ n5_ n6_ n7_ n8_ n9_ n10_ n11_; clear hb hbox hg; have hnb41 := NB784_757.out; have hnc41 := NB757_784.out; have hnb42 := NB784_769.out; have hnc42 := NB769_784.out; have hcz43_0 : w40.cell? ⟨gb784, 0, none⟩ = some (.int .i64 0) := (blk_cell BK784.out 0).trans rfl; have hcz43_1 : w40.cell? ⟨gb784, 1, none⟩ = some (.int .i64 0) := (blk_cell BK784.out 1).trans rfl; have hcz43_2 : w40.cell? ⟨gb784, 2, none⟩ = some (.int .i64 0) := (blk_cell BK784.out 2).trans rfl; have hcz43_3 : w40.cell? ⟨gb784, 3, none⟩ = some (.int .i64 0) := (blk_cell BK784.out 3).trans rfl; have hcz43_4 : w40.cell? ⟨gb784, 4, none⟩ = some (.int .i64 0) := (blk_cell BK784.out 4).trans rfl; have hcz43_5 : w40.cell? ⟨gb784, 5, none⟩ = some (.int .i64 0) := (blk_cell BK784.out 5).trans rfl; have hcz43_6 : w40.cell? ⟨gb784, 6, none⟩ = some (.int .i64 0) := (blk_cell BK784.out 6).trans rfl; have hcz43_7 : w40.cell? ⟨gb784, 7, none⟩ = some (.int .i64 0) := (blk_cell BK784.out 7).trans rfl; have hfz43_0 := blk_frozen BK784.out 0; have hfz43_1 := blk_frozen BK784.out 1; have hfz43_2 := blk_frozen BK784.out 2; have hfz43_3 := blk_frozen BK784.out 3; have hfz43_4 := blk_frozen BK784.out 4; have hfz43_5 := blk_frozen BK784.out 5; have hfz43_6 := blk_frozen BK784.out 6; have hfz43_7 := blk_frozen BK784.out 7) | ((with_reducible refine gate_callee (f := 28) rfl ?_); refine goesL_ (some 64) rfl rfl Try.func28 (by kernel_rfl) rfl #[.agg #[.int .i64 t775, .int .i64 t776, .int .i64 t777, .int .i64 t778, .int .i64 t779, .int .i64 t780, .int .i64 t781, .int .i64 t782]] rfl (by (try simp only [List.map_toArray, List.map_cons, List.map_nil]); first | done | rfl | (simp only [List.length_drop, List.length_take]; rfl)) ?_; (with_reducible refine (record_Master.calls kj16 t775 t776 t777 t778 t779 t780 t781 t782 t785 t788 _ A34.out).mono ?_); rintro e w44 ⟨v786, rfl, ho0, hb⟩; refine ⟨_, rfl, ?_⟩; have n0_ := Aside0.mk (Kd.R_below (by (with_reducible repeat (first | apply Kd.R_alloc | apply Kd.R_drewN | apply Kd.R_drew)); exact (Kd.R_mono (Kd.R_far (p := ⟨gb784, 7, none⟩) (Kd.R_far (p := ⟨gb784, 6, none⟩) (Kd.R_far (p := ⟨gb784, 5, none⟩) (Kd.R_far (p := ⟨gb784, 4, none⟩) (Kd.R_far (p := ⟨gb784, 3, none⟩) (Kd.R_far (p := ⟨gb784, 2, none⟩) (Kd.R_far (p := ⟨gb784, 1, none⟩) (Kd.R_far (p := ⟨gb784, 0, none⟩) (Kd.R_types HO_758001.out BK784.out (by decide)) (fun _ hk => hk.2) (.int .i64 t775)) (fun _ hk => hk.2) (.int .i64 t776)) (fun _ hk => hk.2) (.int .i64 t777)) (fun _ hk => hk.2) (.int .i64 t778)) (fun _ hk => hk.2) (.int .i64 t779)) (fun _ hk => hk.2) (.int .i64 t780)) (fun _ hk => hk.2) (.int .i64 t781)) (fun _ hk => hk.2) (.int .i64 t782)) (fun _ h_ => h_.1))) hb); have n1_ := Aside0.mk (Kd.R_below (by (with_reducible repeat (first | apply Kd.R_alloc | apply Kd.R_drewN | apply Kd.R_drew)); exact (Kd.R_mono (Kd.R_far (p := ⟨gb784, 7, none⟩) (Kd.R_far (p := ⟨gb784, 6, none⟩) (Kd.R_far (p := ⟨gb784, 5, none⟩) (Kd.R_far (p := ⟨gb784, 4, none⟩) (Kd.R_far (p := ⟨gb784, 3, none⟩) (Kd.R_far (p := ⟨gb784, 2, none⟩) (Kd.R_far (p := ⟨gb784, 1, none⟩) (Kd.R_far (p := ⟨gb784, 0, none⟩) (Kd.R_types HO_770001.out BK784.out (by decide)) (fun _ hk => hk.2) (.int .i64 t775)) (fun _ hk => hk.2) (.int .i64 t776)) (fun _ hk => hk.2) (.int .i64 t777)) (fun _ hk => hk.2) (.int .i64 t778)) (fun _ hk => hk.2) (.int .i64 t779)) (fun _ hk => hk.2) (.int .i64 t780)) (fun _ hk => hk.2) (.int .i64 t781)) (fun _ hk => hk.2) (.int .i64 t782)) (fun _ h_ => h_.1))) hb); have n2_ := Aside0.mk (Kd.R_lower ho0 (below_size (by repeat (first | (with_reducible first | exact HB.out | apply below_alloc | apply pw_below_drewN | apply below_drew1 | refine below_set ?_ GE757.out | refine below_set ?_ GE769.out | refine below_set ?_ GE784.out) | exact HB.out)))); have n3_ := Aside0.mk (blk_below (g := gb757) (o := .cells #[.int .i64 t752, .slice Ao7 t753.length co7] 24 (0, 0)) (by (with_reducible repeat (first | refine blk_drewN ?_ _ | refine blk_drew ?_ | refine blk_alloc ?_ _)); refine blk_far ?_ NB757_784.out _; (with_reducible repeat (first | refine blk_drewN ?_ _ | refine blk_drew ?_ | refine blk_alloc ?_ _)); refine blk_far ?_ NB757_784.out _; (with_reducible repeat (first | refine blk_drewN ?_ _ | refine blk_drew ?_ | refine blk_alloc ?_ _)); refine blk_far ?_ NB757_784.out _; (with_reducible repeat (first | refine blk_drewN ?_ _ | refine blk_drew ?_ | refine blk_alloc ?_ _)); refine blk_far ?_ NB757_784.out _; (with_reducible repeat (first | refine blk_drewN ?_ _ | refine blk_drew ?_ | refine blk_alloc ?_ _)); refine blk_far ?_ NB757_784.out _; (with_reducible repeat (first | refine blk_drewN ?_ _ | refine blk_drew ?_ | refine blk_alloc ?_ _)); refine blk_far ?_ NB757_784.out _; (with_reducible repeat (first | refine blk_drewN ?_ _ | refine blk_drew ?_ | refine blk_alloc ?_ _)); refine blk_far ?_ NB757_784.out _; (with_reducible repeat (first | refine blk_drewN ?_ _ | refine blk_drew ?_ | refine blk_alloc ?_ _)); refine blk_far ?_ NB757_784.out _; (with_reducible repeat (first | refine blk_drewN ?_ _ | refine blk_drew ?_ | refine blk_alloc ?_ _)); exact BK757.out) hb); have n4_ := Aside0.mk (blk_below (g := gb769) (o := .cells #[.int .i64 t763, .slice Ao22 t764.length co22, .bool t767] 27 (0, 0)) (by (with_reducible repeat (first | refine blk_drewN ?_ _ | refine blk_drew ?_ | refine blk_alloc ?_ _)); refine blk_far ?_ NB769_784.out _; (with_reducible repeat (first | refine blk_drewN ?_ _ | refine blk_drew ?_ | refine blk_alloc ?_ _)); refine blk_far ?_ NB769_784.out _; (with_reducible repeat (first | refine blk_drewN ?_ _ | refine blk_drew ?_ | refine blk_alloc ?_ _)); refine blk_far ?_ NB769_784.out _; (with_reducible repeat (first | refine blk_drewN ?_ _ | refine blk_drew ?_ | refine blk_alloc ?_ _)); refine blk_far ?_ NB769_784.out _; (with_reducible repeat (first | refine blk_drewN ?_ _ | refine blk_drew ?_ | refine blk_alloc ?_ _)); refine blk_far ?_ NB769_784.out _; (with_reducible repeat (first | refine blk_drewN ?_ _ | refine blk_drew ?_ | refine blk_alloc ?_ _)); refine blk_far ?_ NB769_784.out _; (with_reducible repeat (first | refine blk_drewN ?_ _ | refine blk_drew ?_ | refine blk_alloc ?_ _)); refine blk_far ?_ NB769_784.out _; (with_reducible repeat (first | refine blk_drewN ?_ _ | refine blk_drew ?_ | refine blk_alloc ?_ _)); refine blk_far ?_ NB769_784.out _; (with_reducible repeat (first | refine blk_drewN ?_ _ | refine blk_drew ?_ | refine blk_alloc ?_ _)); exact BK769.out) hb); have n5_ := Aside0.mk (blk_below (g := gb784) (o := .cells #[.int .i64 t775, .int .i64 t776, .int .i64 t777, .int .i64 t778, .int .i64 t779, .int .i64 t780, .int .i64 t781, .int .i64 t782] 31 (0, 0)) (by (with_reducible repeat (first | refine blk_drewN ?_ _ | refine blk_drew ?_ | refine blk_alloc ?_ _)); refine blk_put (cs := #[.int .i64 t775, .int .i64 t776, .int .i64 t777, .int .i64 t778, .int .i64 t779, .int .i64 t780, .int .i64 t781, .int .i64 0]) ?_ 7 _ rfl; (with_reducible repeat (first | refine blk_drewN ?_ _ | refine blk_drew ?_ | refine blk_alloc ?_ _)); refine blk_put (cs := #[.int .i64 t775, .int .i64 t776, .int .i64 t777, .int .i64 t778, .int .i64 t779, .int .i64 t780, .int .i64 0, .int .i64 0]) ?_ 6 _ rfl; (with_reducible repeat (first | refine blk_drewN ?_ _ | refine blk_drew ?_ | refine blk_alloc ?_ _)); refine blk_put (cs := #[.int .i64 t775, .int .i64 t776, .int .i64 t777, .int .i64 t778, .int .i64 t779, .int .i64 0, .int .i64 0, .int .i64 0]) ?_ 5 _ rfl; (with_reducible repeat (first | refine blk_drewN ?_ _ | refine blk_drew ?_ | refine blk_alloc ?_ _)); refine blk_put (cs := #[.int .i64 t775, .int .i64 t776, .int .i64 t777, .int .i64 t778, .int .i64 0, .int .i64 0, .int .i64 0, .int .i64 0]) ?_ 4 _ rfl; (with_reducible repeat (first | refine blk_drewN ?_ _ | refine blk_drew ?_ | refine blk_alloc ?_ _)); refine blk_put (cs := #[.int .i64 t775, .int .i64 t776, .int .i64 t777, .int .i64 0, .int .i64 0, .int .i64 0, .int .i64 0, .int .i64 0]) ?_ 3 _ rfl; (with_reducible repeat (first | refine blk_drewN ?_ _ | refine blk_drew ?_ | refine blk_alloc ?_ _)); refine blk_put (cs := #[.int .i64 t775, .int .i64 t776, .int .i64 0, .int .i64 0, .int .i64 0, .int .i64 0, .int .i64 0, .int .i64 0]) ?_ 2 _ rfl; (with_reducible repeat (first | refine blk_drewN ?_ _ | refine blk_drew ?_ | refine blk_alloc ?_ _)); refine blk_put (cs := #[.int .i64 t775, .int .i64 0, .int .i64 0, .int .i64 0, .int .i64 0, .int .i64 0, .int .i64 0, .int .i64 0]) ?_ 1 _ rfl; (with_reducible repeat (first | refine blk_drewN ?_ _ | refine blk_drew ?_ | refine blk_alloc ?_ _)); refine blk_put (cs := #[.int .i64 0, .int .i64 0, .int .i64 0, .int .i64 0, .int .i64 0, .int .i64 0, .int .i64 0, .int .i64 0]) ?_ 0 _ rfl; (with_reducible repeat (first | refine blk_drewN ?_ _ | refine blk_drew ?_ | refine blk_alloc ?_ _)); exact BK784.out) hb); have n6_ := Aside0.mk (below_step (by repeat (first | (with_reducible first | exact HB.out | apply below_alloc | apply pw_below_drewN | apply below_drew1 | refine below_set ?_ GE757.out | refine below_set ?_ GE769.out | refine below_set ?_ GE784.out) | exact HB.out)) hb); clear HO_758001; clear HO_770001; clear BK757; clear BK769; clear BK784; clear HB; have HO_758001 := n0_; have HO_770001 := n1_; have HO787 := n2_; have BK757 := n3_; have BK769 := n4_; have BK784 := n5_; have HB := n6_; clear n0_ n1_ n2_ n3_ n4_ n5_ n6_; (try clear hb); (try clear hb2); (try clear hk); (try clear hi); (try clear ho0); obtain ⟨Ao45, co45, eo45⟩ := Kd.R_slice HO787.out; subst eo45) | (go_at_call 30; (with_reducible refine (bytes_Equal.calls _ _ t785 _ _ l0 true _ ?side1 ?side2 ?side3 ?side4 A36.out).mono ?_); (case side1 => repeat (first | exact (Kd.R_reads' HO787.out).2.2 | (with_reducible refine Kd.C_alloc ?_ _) | (with_reducible refine Kd.C_drewN ?_ _) | (with_reducible refine Kd.C_drew ?_))); (case side2 => exact (Kd.R_reads' HO787.out).2.1); (case side3 => repeat (first | exact (Kd.C_below HR0.out HB.out) | (with_reducible refine Kd.C_alloc ?_ _) | (with_reducible refine Kd.C_drewN ?_ _) | (with_reducible refine Kd.C_drew ?_))); (case side4 => exact HC0.out); rintro e w' ⟨rfl, ⟨nd, rfl⟩⟩) | ((with_reducible refine gate_callee (f := 17) rfl ?_); refine goesL_ (some 75) rfl rfl Try.func17 (by kernel_rfl) rfl #[] rfl (by (try simp only [List.map_toArray, List.map_cons, List.map_nil]); first | done | rfl | (simp only [List.length_drop, List.length_take]; rfl)) ?_; (with_reducible refine (cressetlaw03_live.calls kj16  t790 _ A38.out).mono ?_); rintro e w46 ⟨rfl, hb⟩; refine ⟨_, rfl, ?_⟩; have n0_ := Aside0.mk (Kd.R_below (by (with_reducible repeat (first | apply Kd.R_alloc | apply Kd.R_drewN | apply Kd.R_drew)); exact HO_758001.out) hb); have n1_ := Aside0.mk (Kd.R_below (by (with_reducible repeat (first | apply Kd.R_alloc | apply Kd.R_drewN | apply Kd.R_drew)); exact HO_770001.out) hb); have n2_ := Aside0.mk (Kd.R_below (by (with_reducible repeat (first | apply Kd.R_alloc | apply Kd.R_drewN | apply Kd.R_drew)); exact HO787.out) hb); have n3_ := Aside0.mk (blk_below (g := gb757) (o := .cells #[.int .i64 t752, .slice Ao7 t753.length co7] 24 (0, 0)) (by (with_reducible repeat (first | refine blk_drewN ?_ _ | refine blk_drew ?_ | refine blk_alloc ?_ _)); exact BK757.out) hb); have n4_ := Aside0.mk (blk_below (g := gb769) (o := .cells #[.int .i64 t763, .slice Ao22 t764.length co22, .bool t767] 27 (0, 0)) (by (with_reducible repeat (first | refine blk_drewN ?_ _ | refine blk_drew ?_ | refine blk_alloc ?_ _)); exact BK769.out) hb); have n5_ := Aside0.mk (blk_below (g := gb784) (o := .cells #[.int .i64 t775, .int .i64 t776, .int .i64 t777, .int .i64 t778, .int .i64 t779, .int .i64 t780, .int .i64 t781, .int .i64 t782] 31 (0, 0)) (by (with_reducible repeat (first | refine blk_drewN ?_ _ | refine blk_drew ?_ | refine blk_alloc ?_ _)); exact BK784.out) hb); have n6_ := Aside0.mk (below_step (by repeat (first | (with_reducible first | exact HB.out | apply below_alloc | apply pw_below_drewN | apply below_drew1 | refine below_set ?_ GE757.out | refine below_set ?_ GE769.out | refine below_set ?_ GE784.out) | exact HB.out)) hb); clear HO_758001; clear HO_770001; clear HO787; clear BK757; clear BK769; clear BK784; clear HB; have HO_758001 := n0_; have HO_770001 := n1_; have HO787 := n2_; have BK757 := n3_; have BK769 := n4_; have BK784 := n5_; have HB := n6_; clear n0_ n1_ n2_ n3_ n4_ n5_ n6_; (try clear hb); (try clear hb2); (try clear hk); (try clear hi)))
        go_ret
        exact ⟨by first | exact congrArg (fun b_ => Ending.returned (.bool b_)) HRT.out | exact congrArg (fun b_ => Ending.returned (.bool b_)) (by simpa using HRT.out) | rfl | (simp [errW_none, errW_some] <;> rfl) | (simp [*, errW_none, errW_some] <;> rfl), by repeat (first | (with_reducible first | exact HB.out | apply below_alloc | apply pw_below_drewN | apply below_drew1 | refine below_set ?_ GE757.out | refine below_set ?_ GE769.out | refine below_set ?_ GE784.out) | exact HB.out)⟩
       ·
        replace c37 := Bool.eq_false_iff.mpr c37
        subst c37
        have H1 : (some false) = some true := by rw [if_neg (show ¬ (false = true) by decide)] at H; first | done | exact H
        clear H
        have H := H1
        clear H1
        exact absurd H (by simp)
      ·
       rw [if_neg c35] at H
       have c35b0 : (t788 == 0) = false := beq_eq_false_iff_ne.mpr c35
       have c35b1 : (t788 != 0) = true := bne_iff_ne.mpr c35
       exact absurd H (by simp)
     ·
      rw [if_neg c33] at H
      have c33b0 : (t783 == 0) = false := beq_eq_false_iff_ne.mpr c33
      have c33b1 : (t783 != 0) = true := bne_iff_ne.mpr c33
      replace H := Option.bind_eq_some_iff.mp H
      obtain ⟨t791, A470, H⟩ := H
      replace H : (some t791) = some true := H
      have A47 := Aside0.mk A470
      clear A470
      have HRT := Aside0.mk (Option.some.inj H)
      clear H
      go_wp2_with (first | ((with_reducible refine gate_callee (f := 40) rfl ?_); refine goesL_ (some 57) rfl rfl Try.func40 (by kernel_rfl) rfl #[.slice A0 l0.length c0] rfl (by (try simp only [List.map_toArray, List.map_cons, List.map_nil]); first | done | rfl | (simp only [List.length_drop, List.length_take]; rfl)) ?_; (with_reducible refine (record_TakeMaster.calls kj16 _ _ l0 t775 t776 t777 t778 t779 t780 t781 t782 t783 _ ?side1 ?side2 A32.out).mono ?_); (case side1 => repeat (first | exact (Kd.C_below HR0.out HB.out) | (with_reducible refine Kd.C_alloc ?_ _) | (with_reducible refine Kd.C_drewN ?_ _) | (with_reducible refine Kd.C_drew ?_))); (case side2 => exact HC0.out); rintro e w48 ⟨rfl, hb⟩; refine ⟨_, rfl, ?_⟩; have n0_ := Aside0.mk (Kd.R_below (by (with_reducible repeat (first | apply Kd.R_alloc | apply Kd.R_drewN | apply Kd.R_drew)); exact HO_758001.out) hb); have n1_ := Aside0.mk (Kd.R_below (by (with_reducible repeat (first | apply Kd.R_alloc | apply Kd.R_drewN | apply Kd.R_drew)); exact HO_770001.out) hb); have n2_ := Aside0.mk (blk_below (g := gb757) (o := .cells #[.int .i64 t752, .slice Ao7 t753.length co7] 24 (0, 0)) (by (with_reducible repeat (first | refine blk_drewN ?_ _ | refine blk_drew ?_ | refine blk_alloc ?_ _)); exact BK757.out) hb); have n3_ := Aside0.mk (blk_below (g := gb769) (o := .cells #[.int .i64 t763, .slice Ao22 t764.length co22, .bool t767] 27 (0, 0)) (by (with_reducible repeat (first | refine blk_drewN ?_ _ | refine blk_drew ?_ | refine blk_alloc ?_ _)); exact BK769.out) hb); have n4_ := Aside0.mk (below_step (by repeat (first | (with_reducible first | exact HB.out | apply below_alloc | apply pw_below_drewN | apply below_drew1 | refine below_set ?_ GE757.out | refine below_set ?_ GE769.out) | exact HB.out)) hb); clear HO_758001; clear HO_770001; clear BK757; clear BK769; clear HB; have HO_758001 := n0_; have HO_770001 := n1_; have BK757 := n2_; have BK769 := n3_; have HB := n4_; clear n0_ n1_ n2_ n3_ n4_; (try clear hb); (try clear hb2); (try clear hk); (try clear hi)) | ((with_reducible refine gate_dst (N := 11) rfl ?_); refine box_event ?hg (N := 11) ?hd (cs := #[.int .i64 0, .int .i64 0, .int .i64 0, .int .i64 0, .int .i64 0, .int .i64 0, .int .i64 0, .int .i64 0]) (t := 31) ?hr ?_; (case hd => rfl); (case hg => rfl); (case hr => first | (go_simp; done) | (go_simp; rfl)); intro gb784 hg w49 hbox hb; have n0_ := Aside0.mk (Kd.R_below (by (with_reducible repeat (first | apply Kd.R_alloc | apply Kd.R_drewN | apply Kd.R_drew)); exact HO_758001.out) hb); have n1_ := Aside0.mk (Kd.R_below (by (with_reducible repeat (first | apply Kd.R_alloc | apply Kd.R_drewN | apply Kd.R_drew)); exact HO_770001.out) hb); have n2_ := Aside0.mk (blk_below (g := gb757) (o := .cells #[.int .i64 t752, .slice Ao7 t753.length co7] 24 (0, 0)) (by (with_reducible repeat (first | refine blk_drewN ?_ _ | refine blk_drew ?_ | refine blk_alloc ?_ _)); exact BK757.out) hb); have n3_ := Aside0.mk (blk_below (g := gb769) (o := .cells #[.int .i64 t763, .slice Ao22 t764.length co22, .bool t767] 27 (0, 0)) (by (with_reducible repeat (first | refine blk_drewN ?_ _ | refine blk_drew ?_ | refine blk_alloc ?_ _)); exact BK769.out) hb); have n4_ := Aside0.mk (below_step (by repeat (first | (with_reducible first | exact HB.out | apply below_alloc | apply pw_below_drewN | apply below_drew1 | refine below_set ?_ GE757.out | refine below_set ?_ GE769.out) | exact HB.out)) hb); have n5_ := Aside0.mk (hbox); have n6_ := Aside0.mk ((by rw [hg]; exact (below_size (by repeat (first | (with_reducible first | exact HB.out | apply below_alloc | apply pw_below_drewN | apply below_drew1 | refine below_set ?_ GE757.out | refine below_set ?_ GE769.out) | exact HB.out))) : w.heap.size ≤ gb784)); have n7_ := Aside0.mk ((by rw [hg]; exact (below_size (by repeat (first | (with_reducible first | exact HB.out | apply below_alloc | apply pw_below_drewN | apply below_drew1 | refine below_set ?_ GE757.out | refine below_set ?_ GE769.out) | exact HB.out))) : w.heap.size ≤ gb784)); have n8_ := Aside0.mk ((by rw [hg]; exact Nat.ne_of_lt (blk_lt (g := gb757) (o := .cells #[.int .i64 t752, .slice Ao7 t753.length co7] 24 (0, 0)) (by (with_reducible repeat (first | refine blk_drewN ?_ _ | refine blk_drew ?_ | refine blk_alloc ?_ _)); exact BK757.out)) : gb757 ≠ gb784)); have n9_ := Aside0.mk ((by rw [hg]; exact Nat.ne_of_gt (blk_lt (g := gb757) (o := .cells #[.int .i64 t752, .slice Ao7 t753.length co7] 24 (0, 0)) (by (with_reducible repeat (first | refine blk_drewN ?_ _ | refine blk_drew ?_ | refine blk_alloc ?_ _)); exact BK757.out)) : gb784 ≠ gb757)); have n10_ := Aside0.mk ((by rw [hg]; exact Nat.ne_of_lt (blk_lt (g := gb769) (o := .cells #[.int .i64 t763, .slice Ao22 t764.length co22, .bool t767] 27 (0, 0)) (by (with_reducible repeat (first | refine blk_drewN ?_ _ | refine blk_drew ?_ | refine blk_alloc ?_ _)); exact BK769.out)) : gb769 ≠ gb784)); have n11_ := Aside0.mk ((by rw [hg]; exact Nat.ne_of_gt (blk_lt (g := gb769) (o := .cells #[.int .i64 t763, .slice Ao22 t764.length co22, .bool t767] 27 (0, 0)) (by (with_reducible repeat (first | refine blk_drewN ?_ _ | refine blk_drew ?_ | refine blk_alloc ?_ _)); exact BK769.out)) : gb784 ≠ gb769)); clear HO_758001; clear HO_770001; clear BK757; clear BK769; clear HB; have HO_758001 := n0_; have HO_770001 := n1_; have BK757 := n2_; have BK769 := n3_; have HB := n4_; have BK784 := n5_; have GW784 := n6_; have GE784 := n7_; have NB757_784 := n8_; have NB784_757 := n9_; have NB769_784 := n10_; have NB784_769 := n11_; clear n0_ n1_ n2_ n3_ n4_ n5_ n6_ n7_ n8_ n9_ n10_ n11_; clear hb hbox hg; have hnb50 := NB784_757.out; have hnc50 := NB757_784.out; have hnb51 := NB784_769.out; have hnc51 := NB769_784.out; have hcz52_0 : w49.cell? ⟨gb784, 0, none⟩ = some (.int .i64 0) := (blk_cell BK784.out 0).trans rfl; have hcz52_1 : w49.cell? ⟨gb784, 1, none⟩ = some (.int .i64 0) := (blk_cell BK784.out 1).trans rfl; have hcz52_2 : w49.cell? ⟨gb784, 2, none⟩ = some (.int .i64 0) := (blk_cell BK784.out 2).trans rfl; have hcz52_3 : w49.cell? ⟨gb784, 3, none⟩ = some (.int .i64 0) := (blk_cell BK784.out 3).trans rfl; have hcz52_4 : w49.cell? ⟨gb784, 4, none⟩ = some (.int .i64 0) := (blk_cell BK784.out 4).trans rfl; have hcz52_5 : w49.cell? ⟨gb784, 5, none⟩ = some (.int .i64 0) := (blk_cell BK784.out 5).trans rfl; have hcz52_6 : w49.cell? ⟨gb784, 6, none⟩ = some (.int .i64 0) := (blk_cell BK784.out 6).trans rfl; have hcz52_7 : w49.cell? ⟨gb784, 7, none⟩ = some (.int .i64 0) := (blk_cell BK784.out 7).trans rfl; have hfz52_0 := blk_frozen BK784.out 0; have hfz52_1 := blk_frozen BK784.out 1; have hfz52_2 := blk_frozen BK784.out 2; have hfz52_3 := blk_frozen BK784.out 3; have hfz52_4 := blk_frozen BK784.out 4; have hfz52_5 := blk_frozen BK784.out 5; have hfz52_6 := blk_frozen BK784.out 6; have hfz52_7 := blk_frozen BK784.out 7) | ((with_reducible refine gate_callee (f := 17) rfl ?_); refine goesL_ (some 75) rfl rfl Try.func17 (by kernel_rfl) rfl #[] rfl (by (try simp only [List.map_toArray, List.map_cons, List.map_nil]); first | done | rfl | (simp only [List.length_drop, List.length_take]; rfl)) ?_; (with_reducible refine (cressetlaw03_live.calls kj16  t791 _ A47.out).mono ?_); rintro e w53 ⟨rfl, hb⟩; refine ⟨_, rfl, ?_⟩; have n0_ := Aside0.mk (Kd.R_below (by (with_reducible repeat (first | apply Kd.R_alloc | apply Kd.R_drewN | apply Kd.R_drew)); exact (Kd.R_mono (Kd.R_far (p := ⟨gb784, 7, none⟩) (Kd.R_far (p := ⟨gb784, 6, none⟩) (Kd.R_far (p := ⟨gb784, 5, none⟩) (Kd.R_far (p := ⟨gb784, 4, none⟩) (Kd.R_far (p := ⟨gb784, 3, none⟩) (Kd.R_far (p := ⟨gb784, 2, none⟩) (Kd.R_far (p := ⟨gb784, 1, none⟩) (Kd.R_far (p := ⟨gb784, 0, none⟩) (Kd.R_types HO_758001.out BK784.out (by decide)) (fun _ hk => hk.2) (.int .i64 t775)) (fun _ hk => hk.2) (.int .i64 t776)) (fun _ hk => hk.2) (.int .i64 t777)) (fun _ hk => hk.2) (.int .i64 t778)) (fun _ hk => hk.2) (.int .i64 t779)) (fun _ hk => hk.2) (.int .i64 t780)) (fun _ hk => hk.2) (.int .i64 t781)) (fun _ hk => hk.2) (.int .i64 t782)) (fun _ h_ => h_.1))) hb); have n1_ := Aside0.mk (Kd.R_below (by (with_reducible repeat (first | apply Kd.R_alloc | apply Kd.R_drewN | apply Kd.R_drew)); exact (Kd.R_mono (Kd.R_far (p := ⟨gb784, 7, none⟩) (Kd.R_far (p := ⟨gb784, 6, none⟩) (Kd.R_far (p := ⟨gb784, 5, none⟩) (Kd.R_far (p := ⟨gb784, 4, none⟩) (Kd.R_far (p := ⟨gb784, 3, none⟩) (Kd.R_far (p := ⟨gb784, 2, none⟩) (Kd.R_far (p := ⟨gb784, 1, none⟩) (Kd.R_far (p := ⟨gb784, 0, none⟩) (Kd.R_types HO_770001.out BK784.out (by decide)) (fun _ hk => hk.2) (.int .i64 t775)) (fun _ hk => hk.2) (.int .i64 t776)) (fun _ hk => hk.2) (.int .i64 t777)) (fun _ hk => hk.2) (.int .i64 t778)) (fun _ hk => hk.2) (.int .i64 t779)) (fun _ hk => hk.2) (.int .i64 t780)) (fun _ hk => hk.2) (.int .i64 t781)) (fun _ hk => hk.2) (.int .i64 t782)) (fun _ h_ => h_.1))) hb); have n2_ := Aside0.mk (blk_below (g := gb757) (o := .cells #[.int .i64 t752, .slice Ao7 t753.length co7] 24 (0, 0)) (by (with_reducible repeat (first | refine blk_drewN ?_ _ | refine blk_drew ?_ | refine blk_alloc ?_ _)); refine blk_far ?_ NB757_784.out _; (with_reducible repeat (first | refine blk_drewN ?_ _ | refine blk_drew ?_ | refine blk_alloc ?_ _)); refine blk_far ?_ NB757_784.out _; (with_reducible repeat (first | refine blk_drewN ?_ _ | refine blk_drew ?_ | refine blk_alloc ?_ _)); refine blk_far ?_ NB757_784.out _; (with_reducible repeat (first | refine blk_drewN ?_ _ | refine blk_drew ?_ | refine blk_alloc ?_ _)); refine blk_far ?_ NB757_784.out _; (with_reducible repeat (first | refine blk_drewN ?_ _ | refine blk_drew ?_ | refine blk_alloc ?_ _)); refine blk_far ?_ NB757_784.out _; (with_reducible repeat (first | refine blk_drewN ?_ _ | refine blk_drew ?_ | refine blk_alloc ?_ _)); refine blk_far ?_ NB757_784.out _; (with_reducible repeat (first | refine blk_drewN ?_ _ | refine blk_drew ?_ | refine blk_alloc ?_ _)); refine blk_far ?_ NB757_784.out _; (with_reducible repeat (first | refine blk_drewN ?_ _ | refine blk_drew ?_ | refine blk_alloc ?_ _)); refine blk_far ?_ NB757_784.out _; (with_reducible repeat (first | refine blk_drewN ?_ _ | refine blk_drew ?_ | refine blk_alloc ?_ _)); exact BK757.out) hb); have n3_ := Aside0.mk (blk_below (g := gb769) (o := .cells #[.int .i64 t763, .slice Ao22 t764.length co22, .bool t767] 27 (0, 0)) (by (with_reducible repeat (first | refine blk_drewN ?_ _ | refine blk_drew ?_ | refine blk_alloc ?_ _)); refine blk_far ?_ NB769_784.out _; (with_reducible repeat (first | refine blk_drewN ?_ _ | refine blk_drew ?_ | refine blk_alloc ?_ _)); refine blk_far ?_ NB769_784.out _; (with_reducible repeat (first | refine blk_drewN ?_ _ | refine blk_drew ?_ | refine blk_alloc ?_ _)); refine blk_far ?_ NB769_784.out _; (with_reducible repeat (first | refine blk_drewN ?_ _ | refine blk_drew ?_ | refine blk_alloc ?_ _)); refine blk_far ?_ NB769_784.out _; (with_reducible repeat (first | refine blk_drewN ?_ _ | refine blk_drew ?_ | refine blk_alloc ?_ _)); refine blk_far ?_ NB769_784.out _; (with_reducible repeat (first | refine blk_drewN ?_ _ | refine blk_drew ?_ | refine blk_alloc ?_ _)); refine blk_far ?_ NB769_784.out _; (with_reducible repeat (first | refine blk_drewN ?_ _ | refine blk_drew ?_ | refine blk_alloc ?_ _)); refine blk_far ?_ NB769_784.out _; (with_reducible repeat (first | refine blk_drewN ?_ _ | refine blk_drew ?_ | refine blk_alloc ?_ _)); refine blk_far ?_ NB769_784.out _; (with_reducible repeat (first | refine blk_drewN ?_ _ | refine blk_drew ?_ | refine blk_alloc ?_ _)); exact BK769.out) hb); have n4_ := Aside0.mk (blk_below (g := gb784) (o := .cells #[.int .i64 t775, .int .i64 t776, .int .i64 t777, .int .i64 t778, .int .i64 t779, .int .i64 t780, .int .i64 t781, .int .i64 t782] 31 (0, 0)) (by (with_reducible repeat (first | refine blk_drewN ?_ _ | refine blk_drew ?_ | refine blk_alloc ?_ _)); refine blk_put (cs := #[.int .i64 t775, .int .i64 t776, .int .i64 t777, .int .i64 t778, .int .i64 t779, .int .i64 t780, .int .i64 t781, .int .i64 0]) ?_ 7 _ rfl; (with_reducible repeat (first | refine blk_drewN ?_ _ | refine blk_drew ?_ | refine blk_alloc ?_ _)); refine blk_put (cs := #[.int .i64 t775, .int .i64 t776, .int .i64 t777, .int .i64 t778, .int .i64 t779, .int .i64 t780, .int .i64 0, .int .i64 0]) ?_ 6 _ rfl; (with_reducible repeat (first | refine blk_drewN ?_ _ | refine blk_drew ?_ | refine blk_alloc ?_ _)); refine blk_put (cs := #[.int .i64 t775, .int .i64 t776, .int .i64 t777, .int .i64 t778, .int .i64 t779, .int .i64 0, .int .i64 0, .int .i64 0]) ?_ 5 _ rfl; (with_reducible repeat (first | refine blk_drewN ?_ _ | refine blk_drew ?_ | refine blk_alloc ?_ _)); refine blk_put (cs := #[.int .i64 t775, .int .i64 t776, .int .i64 t777, .int .i64 t778, .int .i64 0, .int .i64 0, .int .i64 0, .int .i64 0]) ?_ 4 _ rfl; (with_reducible repeat (first | refine blk_drewN ?_ _ | refine blk_drew ?_ | refine blk_alloc ?_ _)); refine blk_put (cs := #[.int .i64 t775, .int .i64 t776, .int .i64 t777, .int .i64 0, .int .i64 0, .int .i64 0, .int .i64 0, .int .i64 0]) ?_ 3 _ rfl; (with_reducible repeat (first | refine blk_drewN ?_ _ | refine blk_drew ?_ | refine blk_alloc ?_ _)); refine blk_put (cs := #[.int .i64 t775, .int .i64 t776, .int .i64 0, .int .i64 0, .int .i64 0, .int .i64 0, .int .i64 0, .int .i64 0]) ?_ 2 _ rfl; (with_reducible repeat (first | refine blk_drewN ?_ _ | refine blk_drew ?_ | refine blk_alloc ?_ _)); refine blk_put (cs := #[.int .i64 t775, .int .i64 0, .int .i64 0, .int .i64 0, .int .i64 0, .int .i64 0, .int .i64 0, .int .i64 0]) ?_ 1 _ rfl; (with_reducible repeat (first | refine blk_drewN ?_ _ | refine blk_drew ?_ | refine blk_alloc ?_ _)); refine blk_put (cs := #[.int .i64 0, .int .i64 0, .int .i64 0, .int .i64 0, .int .i64 0, .int .i64 0, .int .i64 0, .int .i64 0]) ?_ 0 _ rfl; (with_reducible repeat (first | refine blk_drewN ?_ _ | refine blk_drew ?_ | refine blk_alloc ?_ _)); exact BK784.out) hb); have n5_ := Aside0.mk (below_step (by repeat (first | (with_reducible first | exact HB.out | apply below_alloc | apply pw_below_drewN | apply below_drew1 | refine below_set ?_ GE757.out | refine below_set ?_ GE769.out | refine below_set ?_ GE784.out) | exact HB.out)) hb); clear HO_758001; clear HO_770001; clear BK757; clear BK769; clear BK784; clear HB; have HO_758001 := n0_; have HO_770001 := n1_; have BK757 := n2_; have BK769 := n3_; have BK784 := n4_; have HB := n5_; clear n0_ n1_ n2_ n3_ n4_ n5_; (try clear hb); (try clear hb2); (try clear hk); (try clear hi)))
      go_ret
      exact ⟨by first | exact congrArg (fun b_ => Ending.returned (.bool b_)) HRT.out | exact congrArg (fun b_ => Ending.returned (.bool b_)) (by simpa using HRT.out) | rfl | (simp [errW_none, errW_some] <;> rfl) | (simp [*, errW_none, errW_some] <;> rfl), by repeat (first | (with_reducible first | exact HB.out | apply below_alloc | apply pw_below_drewN | apply below_drew1 | refine below_set ?_ GE757.out | refine below_set ?_ GE769.out | refine below_set ?_ GE784.out) | exact HB.out)⟩

def cressetlaw03_RecordOne.Pure : Prop := ∀ (l0 : List Int), (l0.length ≤ maxLen ∧ l0.length * 1 ≤ 140737488351232 ∧ ∀ x_ ∈ l0, (Lit.int .u8 x_).wf = true) → ∃ k, cressetlaw03_RecordOne.f k l0 = some true
theorem cressetlaw03_RecordOne.walk (P : cressetlaw03_RecordOne.Pure) (A0 : Option Addr) (c0 : Nat) (l0 : List Int) (w : World) (hr0 : Kd.C (Kd.int .u8) w A0 l0.length l0) (hc0 : l0.length ≤ c0) (w0 : (l0.length ≤ maxLen ∧ l0.length * 1 ≤ 140737488351232 ∧ ∀ x_ ∈ l0, (Lit.int .u8 x_).wf = true)) :
  Calls Try.prog 8 #[.slice A0 l0.length c0] w fun e w' => e = .returned (.bool true) ∧ Below w.heap.size w w' := by
 obtain ⟨k, h⟩ := P l0 w0
 refine (cressetlaw03_RecordOne.calls k A0 c0 l0 w hr0 hc0 h).mono ?_
 rintro e w' ⟨rfl, hd⟩
 exact ⟨rfl, hd⟩

end Go.Proofs.Ytkcdmoghnoodmaa.B

namespace Go.Proofs.Ytkcdmoghnoodmaa.Lib
open Go.RowKit Go.Proofs.Ytkcdmoghnoodmaa.B Go.Proofs.YtkcdmoghnoodmaaW.PrintWords Go.Proofs.YtkcdmoghnoodmaaW.PrintLast
set_option linter.unusedVariables false
set_option linter.unusedSimpArgs false
theorem wr1 {x : Int} (h0 : -9223372036854775808 ≤ x) (h : x ≤ 9223372036854775807) : wrap64 x = x := by
  unfold wrap64; omega
theorem rd33 (l : List S33) (n : Nat) (h : n < l.length) : rd_T33 l (n : Int) = l[n] := by
  unfold rd_T33
  simp [List.getD_eq_getElem?_getD, List.getElem?_eq_getElem h]
theorem rd74 (l : List S74) (n : Nat) (h : n < l.length) : rd_T74 l (n : Int) = l[n] := by
  unfold rd_T74
  simp [List.getD_eq_getElem?_getD, List.getElem?_eq_getElem h]
theorem rdI (l : List Int) (n : Nat) (h : n < l.length) : rd l (n : Int) = l[n] := by
  unfold rd
  simp [List.getD_eq_getElem?_getD, List.getElem?_eq_getElem h]
def keyE (s : ByteArray) : Int := if s.toList = [] then 30 else if (s.size : Int) > 64 then 30 else 0
def valE (s : ByteArray) : Int := if (s.size : Int) > 256 then 31 else 0
def fieldE (b : Bool) : Int := if b = true then 0 else 32
theorem key_eq (s : ByteArray) : record_Key.f s = some (keyE s) := by unfold record_Key.f keyE; split <;> (try split) <;> rfl
theorem val_eq (s : ByteArray) : record_Value.f s = some (valE s) := by unfold record_Value.f valE; split <;> rfl
theorem field_eq (b : Bool) : record_field.f b = some (fieldE b) := by unfold record_field.f fieldE; split <;> rfl
def fst : List Int → Int
  | [] => 0
  | a :: l => if a = 0 then fst l else a
theorem first_loop (l : List Int) (hl : l.length ≤ 9223372036854775000) : ∀ (d n : Nat), n + d = l.length → Ev (fun k => record_first.l0 k l (l.length : Int) (n : Int)) (fst (l.drop n))
  | 0, n, h => by
    rw [List.drop_of_length_le (by omega)]
    refine Ev.step (f := fun _ => some 0) (fun k => ?_) (Ev.now _)
    simp only [record_first.l0]
    rw [if_neg (by omega)]
  | d + 1, n, h => by
    have hn : n < l.length := by omega
    have e : wrap64 ((n : Int) + 1) = ((n + 1 : Nat) : Int) := by rw [wr1 (by omega) (by omega)]; omega
    have ih := first_loop l hl d (n + 1) (by omega)
    rw [List.drop_eq_getElem_cons hn, fst]
    refine Ev.step (fun k => by simp only [record_first.l0]; rw [if_pos (by omega), if_pos (by omega), if_pos (by omega), rdI l n hn]) ?_
    by_cases h1 : l[n] = 0
    · simp only [if_pos h1, e]; exact ih
    · simp only [if_neg h1]; exact Ev.now _
theorem first_ev (l : List Int) (hl : l.length ≤ 9223372036854775000) : Ev (fun k => record_first.f k l) (fst l) := first_loop l hl l.length 0 (by omega)
def wrE (x : S33) : Int := fst [keyE x.f0, valE x.f1, if x.f2 = true then fieldE (x.f1.toList == []) else 0]
theorem checkWrite_ev (x : S33) : Ev (fun k => record_CheckWrite.f k x.f0 x.f1 x.f2) (wrE x) := by
  unfold record_CheckWrite.f wrE
  rw [key_eq, val_eq]
  simp only [Option.bind_some, field_eq]
  cases x.f2 with
  | true => simp only [if_true]; exact Ev.bind (first_ev _ (by simp)) (Ev.now _)
  | false => simp only [Bool.false_eq_true, if_false]; exact Ev.bind (first_ev _ (by simp)) (Ev.now _)
end Go.Proofs.Ytkcdmoghnoodmaa.Lib

namespace Go.Proofs.Ytkcdmoghnoodmaa.Lib
open Go.RowKit Go.Proofs.Ytkcdmoghnoodmaa.B Go.Proofs.YtkcdmoghnoodmaaW.PrintWords Go.Proofs.YtkcdmoghnoodmaaW.PrintLast
set_option linter.unusedVariables false
set_option linter.unusedSimpArgs false
abbrev bl := Op.bytesLess
def g33 (l : List S33) (n : Nat) : S33 := l.getD n z33
theorem g33_eq (l : List S33) (n : Nat) (h : n < l.length) : g33 l n = l[n] := by
  unfold g33
  simp [List.getD_eq_getElem?_getD, List.getElem?_eq_getElem h]
theorem fst_two (a : Int) (b : Bool) : fst [a, fieldE b] = if a = 0 then (if b = true then 0 else 32) else a := by
  simp only [fst]
  split
  · cases b <;> rfl
  · rfl
def cmE (l : List S33) : Nat → Nat → Int
  | 0, _ => 0
  | d + 1, n => if wrE (g33 l n) = 0 then (if n = 0 ∨ bl (g33 l (n - 1)).f0.toList (g33 l n).f0.toList = true then cmE l d (n + 1) else 32) else wrE (g33 l n)
theorem commit_loop (a : Int) (l : List S33) (hl : l.length ≤ 9223372036854775000) : ∀ (d n : Nat), n + d = l.length → Ev (fun k => record_CheckCommit.l0 k l (l.length : Int) (n : Int) a l) (cmE l d n)
  | 0, n, h => by
    refine Ev.step (f := fun _ => some 0) (fun k => ?_) (Ev.now _)
    simp only [record_CheckCommit.l0]
    rw [if_neg (by omega)]
  | d + 1, n, h => by
    have hn : n < l.length := by omega
    have e : wrap64 ((n : Int) + 1) = ((n + 1 : Nat) : Int) := by rw [wr1 (by omega) (by omega)]; omega
    have ih := commit_loop a l hl d (n + 1) (by omega)
    unfold cmE
    rw [g33_eq l n hn]
    refine Ev.step (fun k => by simp only [record_CheckCommit.l0]; rw [if_pos (by omega), if_pos (by omega), if_pos (by omega), rd33 l n hn]) ?_
    refine Ev.bind (checkWrite_ev l[n]) ?_
    have hmid : ∀ b : Bool, Ev (fun k => (record_first.f k [wrE l[n], fieldE b]).bind fun t => record_CheckCommit.j2 k t l (l.length : Int) (n : Int) a l) (if wrE l[n] = 0 then (if b = true then cmE l d (n + 1) else 32) else wrE l[n]) := by
      intro b
      refine Ev.bind (first_ev _ (by simp)) ?_
      rw [fst_two]
      refine Ev.step (fun k => by simp only [record_CheckCommit.j2, e]; rfl) ?_
      by_cases h1 : wrE l[n] = 0
      · simp only [if_pos h1]
        cases b with
        | true => simp only [if_true]; exact ih
        | false => simp only [Bool.false_eq_true, if_false, if_neg (show ¬ (32 : Int) = 0 by decide)]; exact Ev.now _
      · simp only [if_neg h1]
        exact Ev.now _
    by_cases h0 : n = 0
    · subst h0
      simp only [if_pos (show ((0 : Nat) : Int) = 0 by rfl), field_eq, Option.bind_some, e, true_or, if_true]
      have := hmid true
      simpa only [if_true] using this
    · obtain ⟨m, rfl⟩ : ∃ m, n = m + 1 := ⟨n - 1, by omega⟩
      have hm : m < l.length := by omega
      have e2 : wrap64 (((m + 1 : Nat) : Int) - 1) = (m : Int) := by rw [wr1 (by omega) (by omega)]; omega
      simp only [if_neg (show ¬ ((m + 1 : Nat) : Int) = 0 by omega), e2, if_pos (show (0 : Int) ≤ m by omega), if_pos (show (m : Int) < l.length by omega), rd33 l m hm, Nat.add_sub_cancel, g33_eq l m hm, e, field_eq, Option.bind_some, h0, false_or]
      exact hmid _
def tsE (a : Int) : Bool := decide (a ≥ 1) && decide (a ≤ 1099511627776)
theorem stamp_eq (a : Int) : record_stamp.f a 1 = some (tsE a) := by
  unfold record_stamp.f tsE
  by_cases h : a ≥ 1
  · rw [if_pos h, decide_eq_true h, Bool.true_and]
  · rw [if_neg h, decide_eq_false h, Bool.false_and]
def commitE (a : Int) (l : List S33) : Int := if tsE a = true ∧ l.length ≠ 0 ∧ l.length ≤ 64 then cmE l l.length 0 else 32
theorem checkCommit_ev (a : Int) (l : List S33) : Ev (fun k => record_CheckCommit.f k a l) (commitE a l) := by
  unfold record_CheckCommit.f commitE
  rw [stamp_eq]
  simp only [Option.bind_some]
  have hbad : Ev (fun k => record_CheckCommit.j0 k true a l) 32 := Ev.step (f := fun _ => some 32) (fun k => by simp only [record_CheckCommit.j0, if_true]) (Ev.now _)
  by_cases h1 : tsE a = true
  · simp only [if_pos h1]
    by_cases h2 : l.length = 0
    · simp only [if_pos (show (l.length : Int) = 0 by omega)]
      rw [if_neg (fun h => h.2.1 h2)]
      exact hbad
    · simp only [if_neg (show ¬ (l.length : Int) = 0 by omega)]
      by_cases h3 : l.length ≤ 64
      · rw [if_pos ⟨h1, h2, h3⟩, decide_eq_false (show ¬ (l.length : Int) > 64 by omega)]
        refine Ev.step (f := fun k => record_CheckCommit.l0 k l (l.length : Int) ((0 : Nat) : Int) a l) (fun k => by simp only [record_CheckCommit.j0, Bool.false_eq_true, if_false]; rfl) ?_
        exact commit_loop a l (by omega) l.length 0 (by omega)
      · rw [if_neg (fun h => h3 h.2.2), decide_eq_true (show (l.length : Int) > 64 by omega)]
        exact hbad
  · simp only [if_neg h1]
    rw [if_neg (fun h => h1 h.1)]
    exact hbad
end Go.Proofs.Ytkcdmoghnoodmaa.Lib

namespace Go.Proofs.Ytkcdmoghnoodmaa.Lib
open Go.RowKit Go.Proofs.Ytkcdmoghnoodmaa.B Go.Proofs.YtkcdmoghnoodmaaW.PrintWords Go.Proofs.YtkcdmoghnoodmaaW.PrintLast
set_option linter.unusedVariables false
set_option linter.unusedSimpArgs false
def g74 (l : List S74) (n : Nat) : S74 := l.getD n z74
theorem g74_eq (l : List S74) (n : Nat) (h : n < l.length) : g74 l n = l[n] := by
  unfold g74
  simp [List.getD_eq_getElem?_getD, List.getElem?_eq_getElem h]
theorem fst_three (a b : Int) (c : Bool) : fst [a, b, fieldE c] = if a = 0 then (if b = 0 then (if c = true then 0 else 32) else b) else a := by
  simp only [fst]
  split
  · split
    · cases c <;> rfl
    · rfl
  · rfl
def chE (l : List S74) : Nat → Nat → Int
  | 0, _ => 0
  | d + 1, n => if keyE (g74 l n).f0 = 0 then (if valE (g74 l n).f1 = 0 then (if (tsE (g74 l n).f2 && (decide (n = 0) || bl (g74 l (n - 1)).f0.toList (g74 l n).f0.toList)) = true then chE l d (n + 1) else 32) else valE (g74 l n).f1) else keyE (g74 l n).f0
theorem chunk_loop (a : Int) (b : Bool) (l : List S74) (hl : l.length ≤ 9223372036854775000) : ∀ (d n : Nat), n + d = l.length → Ev (fun k => record_CheckChunk.l0 k l (l.length : Int) (n : Int) a l b) (chE l d n)
  | 0, n, h => by
    refine Ev.step (f := fun _ => some 0) (fun k => ?_) (Ev.now _)
    simp only [record_CheckChunk.l0]
    rw [if_neg (by omega)]
  | d + 1, n, h => by
    have hn : n < l.length := by omega
    have e : wrap64 ((n : Int) + 1) = ((n + 1 : Nat) : Int) := by rw [wr1 (by omega) (by omega)]; omega
    have ih := chunk_loop a b l hl d (n + 1) (by omega)
    unfold chE
    rw [g74_eq l n hn]
    refine Ev.step (fun k => by simp only [record_CheckChunk.l0]; rw [if_pos (by omega), if_pos (by omega), if_pos (by omega), rd74 l n hn, key_eq, val_eq, stamp_eq]) ?_
    simp only [Option.bind_some]
    have hmid : ∀ c : Bool, Ev (fun k => (record_first.f k [keyE l[n].f0, valE l[n].f1, fieldE c]).bind fun t => record_CheckChunk.j2 k t l (l.length : Int) (n : Int) a l b) (if keyE l[n].f0 = 0 then (if valE l[n].f1 = 0 then (if c = true then chE l d (n + 1) else 32) else valE l[n].f1) else keyE l[n].f0) := by
      intro c
      refine Ev.bind (first_ev _ (by simp)) ?_
      rw [fst_three]
      refine Ev.step (fun k => by simp only [record_CheckChunk.j2, e]; rfl) ?_
      by_cases h1 : keyE l[n].f0 = 0
      · simp only [if_pos h1]
        by_cases h2 : valE l[n].f1 = 0
        · simp only [if_pos h2]
          cases c with
          | true => simp only [if_true]; exact ih
          | false => simp only [Bool.false_eq_true, if_false, if_neg (show ¬ (32 : Int) = 0 by decide)]; exact Ev.now _
        · simp only [if_neg h2]; exact Ev.now _
      · simp only [if_neg h1]
        exact Ev.now _
    cases ht : tsE l[n].f2 with
    | false =>
      simp only [Bool.false_eq_true, if_false, field_eq, Option.bind_some, e, Bool.false_and]
      have := hmid false
      simpa only [Bool.false_eq_true, if_false] using this
    | true =>
      simp only [if_true, Bool.true_and]
      by_cases h0 : n = 0
      · subst h0
        simp only [if_pos (show ((0 : Nat) : Int) = 0 by rfl), field_eq, Option.bind_some, e, decide_true, Bool.true_or]
        exact hmid true
      · obtain ⟨m, rfl⟩ : ∃ m, n = m + 1 := ⟨n - 1, by omega⟩
        have hm : m < l.length := by omega
        have e2 : wrap64 (((m + 1 : Nat) : Int) - 1) = (m : Int) := by rw [wr1 (by omega) (by omega)]; omega
        simp only [if_neg (show ¬ ((m + 1 : Nat) : Int) = 0 by omega), e2, if_pos (show (0 : Int) ≤ m by omega), if_pos (show (m : Int) < l.length by omega), rd74 l m hm, Nat.add_sub_cancel, g74_eq l m hm, e, field_eq, Option.bind_some, decide_eq_false h0, Bool.false_or]
        exact hmid _
def chunkE (a : Int) (l : List S74) : Int := if 0 ≤ a ∧ a < 4096 ∧ l.length ≤ 16 then chE l l.length 0 else 32
theorem checkChunk_ev (a : Int) (l : List S74) (b : Bool) : Ev (fun k => record_CheckChunk.f k a l b) (chunkE a l) := by
  unfold record_CheckChunk.f chunkE
  have hbad : Ev (fun k => record_CheckChunk.j0 k true a l b) 32 := Ev.step (f := fun _ => some 32) (fun k => by simp only [record_CheckChunk.j0, if_true]) (Ev.now _)
  by_cases h1 : a < 0
  · simp only [if_pos h1]; rw [if_neg (by omega)]; exact hbad
  · simp only [if_neg h1]
    by_cases h2 : a ≥ 4096
    · simp only [if_pos h2]; rw [if_neg (by omega)]; exact hbad
    · simp only [if_neg h2]
      by_cases h3 : l.length ≤ 16
      · rw [if_pos (by omega), decide_eq_false (show ¬ (l.length : Int) > 16 by omega)]
        exact Ev.step (f := fun k => record_CheckChunk.l0 k l (l.length : Int) ((0 : Nat) : Int) a l b) (fun k => by simp only [record_CheckChunk.j0, Bool.false_eq_true, if_false]; rfl) (chunk_loop a b l (by omega) l.length 0 (by omega))
      · rw [if_neg (by omega), decide_eq_true (show (l.length : Int) > 16 by omega)]
        exact hbad
def ntE (a : Int) : Bool := decide (a ≥ 0) && decide (a ≤ 1099511627776)
theorem stamp0_eq (a : Int) : record_stamp.f a 0 = some (ntE a) := by
  unfold record_stamp.f ntE
  by_cases h : a ≥ 0
  · rw [if_pos h, decide_eq_true h, Bool.true_and]
  · rw [if_neg h, decide_eq_false h, Bool.false_and]
def masterE (a b c d e f g h : Int) : Int := if tsE a = true ∧ (b = 0 ∨ b = 1) ∧ 1 ≤ c ∧ c ≤ 4096 ∧ ntE d = true ∧ ntE e = true ∧ 0 ≤ f ∧ f < 512 ∧ ntE g = true ∧ ntE h = true then 0 else 32
theorem stampB_ts (n : Int) : stampB n 1 = tsE n := by
  have h1 := stampB_eq n 1
  rw [stamp_eq] at h1
  exact (Option.some.inj h1).symm
theorem stampB_nt (n : Int) : stampB n 0 = ntE n := by
  have h1 := stampB_eq n 0
  rw [stamp0_eq] at h1
  exact (Option.some.inj h1).symm
theorem checkMaster_eq (a b c d e f g h : Int) : record_CheckMaster.f a b c d e f g h = some (masterE a b c d e f g h) := by
  unfold record_CheckMaster.f masterE
  simp only [stampB_ts, stampB_nt]
  cases tsE a <;> cases ntE d <;> cases ntE e <;> cases ntE g <;> cases ntE h <;> simp <;> (repeat' split) <;> first | rfl | omega | (simp; omega) | simp_all
theorem live_ev : Ev (fun k => cressetlaw03_live.f k) true := Ev.now _
end Go.Proofs.Ytkcdmoghnoodmaa.Lib

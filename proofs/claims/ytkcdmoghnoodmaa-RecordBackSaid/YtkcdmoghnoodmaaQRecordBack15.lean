/-
Of the row RecordBack: printed walks and plain laws, merged (wip/claim2.py).
-/
import Derived.Test.YtkcdmoghnoodmaaQRecordBack3
import Derived.Test.YtkcdmoghnoodmaaQRecordBack4
import Derived.Test.YtkcdmoghnoodmaaQRecordBack6
import Derived.Test.YtkcdmoghnoodmaaQRecordBack7
import Derived.Test.YtkcdmoghnoodmaaQRecordBack8
import Derived.Test.YtkcdmoghnoodmaaQRecordBack9
import Derived.Test.YtkcdmoghnoodmaaQRecordBack10
import Derived.Test.YtkcdmoghnoodmaaQRecordBack12
import Derived.Test.YtkcdmoghnoodmaaQRecordBack13
import Derived.Test.YtkcdmoghnoodmaaQRecordBack14
namespace Go.Proofs.Ytkcdmoghnoodmaa.B
open Go.RowKit Go.Proofs.YtkcdmoghnoodmaaW.PrintWords Go.Proofs.YtkcdmoghnoodmaaW.PrintLast Go.Proofs.YtkcdmoghnoodmaaW.PrintMore Go.Proofs.YtkcdmoghnoodmaaW.Mine
attribute [local go_sem] max2_int min2_int max_two min_two max_three min_three max_four min_four str_gtr str_leq str_geq str_max str_min   -- for this text's walks alone
set_option linter.unusedVariables false
set_option linter.unusedSimpArgs false

attribute [local go_sem high] eqA31
mutual
def cressetlaw03_RecordBack.j0 : Nat → Int → List (S74) → Bool → Int → Int → Int → Int → Int → Int → Int → Int → Option (Bool)
  | 0, _, _, _, _, _, _, _, _, _, _, _ => none
  | k + 1, x794000, x794001, x794002, x795000, x795001, x795002, x795003, x795004, x795005, x795006, x795007 => (record_Chunk.f k x794000 x794001 x794002).bind fun bt808 => (if bt808.2 = 0 then ((record_TakeChunk.f k bt808.1).bind fun bt812 => (if bt812.2.2.2 = 0 then ((record_SameChunk.f k x794000 x794001 x794002 bt812.1 bt812.2.1 bt812.2.2.1).bind fun t819 => (if t819 = true then (cressetlaw03_RecordBack.j1 k x795000 x795001 x795002 x795003 x795004 x795005 x795006 x795007) else (some false))) else (some false))) else ((cressetref03_CheckChunk.f k x794000 x794001 x794002).bind fun t820 => (if bt808.2 = t820 then (cressetlaw03_RecordBack.j1 k x795000 x795001 x795002 x795003 x795004 x795005 x795006 x795007) else (some false))))
def cressetlaw03_RecordBack.j1 : Nat → Int → Int → Int → Int → Int → Int → Int → Int → Option (Bool)
  | 0, _, _, _, _, _, _, _, _ => none
  | k + 1, x795000, x795001, x795002, x795003, x795004, x795005, x795006, x795007 => (record_Master.f k x795000 x795001 x795002 x795003 x795004 x795005 x795006 x795007).bind fun bt821 => (if bt821.2 = 0 then ((record_TakeMaster.f k bt821.1).bind fun bt825 => (if bt825.2.2.2.2.2.2.2.2 = 0 then (some (bt825.1 == x795000 && (bt825.2.1 == x795001 && (bt825.2.2.1 == x795002 && (bt825.2.2.2.1 == x795003 && ((bt825.2.2.2.2.1 == x795004 && (bt825.2.2.2.2.2.1 == x795005 && (bt825.2.2.2.2.2.2.1 == x795006 && (bt825.2.2.2.2.2.2.2.1 == x795007)))))))))) else (some false))) else ((cressetref03_CheckMaster.f k x795000 x795001 x795002 x795003 x795004 x795005 x795006 x795007).bind fun t835 => (some (bt821.2 == t835))))
end
def cressetlaw03_RecordBack.f (k : Nat) (a0_0 : Int) (l0_1 : List (S33)) (a1_0 : Int) (l1_1 : List (S74)) (a1_2 : Bool) (a2_0 : Int) (a2_1 : Int) (a2_2 : Int) (a2_3 : Int) (a2_4 : Int) (a2_5 : Int) (a2_6 : Int) (a2_7 : Int) : Option (Bool) := (cressetlaw03_live.f k).bind fun t795 => (if t795 = true then ((record_Commit.f k a0_0 l0_1).bind fun bt796 => (if bt796.2 = 0 then ((record_TakeCommit.f k bt796.1).bind fun bt800 => (if bt800.2.2 = 0 then ((record_SameCommit.f k a0_0 l0_1 bt800.1 bt800.2.1).bind fun t806 => (if t806 = true then (cressetlaw03_RecordBack.j0 k a1_0 l1_1 a1_2 a2_0 a2_1 a2_2 a2_3 a2_4 a2_5 a2_6 a2_7) else (some false))) else (some false))) else ((cressetref03_CheckCommit.f k a0_0 l0_1).bind fun t807 => (if bt796.2 = t807 then (cressetlaw03_RecordBack.j0 k a1_0 l1_1 a1_2 a2_0 a2_1 a2_2 a2_3 a2_4 a2_5 a2_6 a2_7) else (some false))))) else (some false))
set_option maxHeartbeats 8000000 in
set_option maxRecDepth 100000 in
theorem cressetlaw03_RecordBack.calls (k : Nat) (a0_0 : Int) (A0_1 : Option Addr) (c0_1 : Nat) (l0_1 : List (S33)) (a1_0 : Int) (A1_1 : Option Addr) (c1_1 : Nat) (l1_1 : List (S74)) (a1_2 : Bool) (a2_0 : Int) (a2_1 : Int) (a2_2 : Int) (a2_3 : Int) (a2_4 : Int) (a2_5 : Int) (a2_6 : Int) (a2_7 : Int) (w : World) (hr0_1 : Kd.C k33 w A0_1 l0_1.length l0_1) (hc0_1 : l0_1.length ≤ c0_1) (hr1_1 : Kd.C k74 w A1_1 l1_1.length l1_1) (hc1_1 : l1_1.length ≤ c1_1) (h : cressetlaw03_RecordBack.f k a0_0 l0_1 a1_0 l1_1 a1_2 a2_0 a2_1 a2_2 a2_3 a2_4 a2_5 a2_6 a2_7 = some true) :
    Calls Try.prog 9 #[.agg #[.int .i64 a0_0, .slice A0_1 l0_1.length c0_1], .agg #[.int .i64 a1_0, .slice A1_1 l1_1.length c1_1, .bool a1_2], .agg #[.int .i64 a2_0, .int .i64 a2_1, .int .i64 a2_2, .int .i64 a2_3, .int .i64 a2_4, .int .i64 a2_5, .int .i64 a2_6, .int .i64 a2_7]] w fun e w' => e = .returned (.bool true) ∧ Below w.heap.size w w' := by
 have hu24 := Try.underlying24
 have hu27 := Try.underlying27
 have hu31 := Try.underlying31
 have HR0_1 := Aside0.mk hr0_1
 have HC0_1 := Aside0.mk hc0_1
 clear hr0_1 hc0_1
 have HR1_1 := Aside0.mk hr1_1
 have HC1_1 := Aside0.mk hc1_1
 clear hr1_1 hc1_1
 have HB := Aside0.mk (Below.refl w.heap.size w)
 have H : ((cressetlaw03_live.f k).bind fun t795 => (if t795 = true then ((record_Commit.f k a0_0 l0_1).bind fun bt796 => (if bt796.2 = 0 then ((record_TakeCommit.f k bt796.1).bind fun bt800 => (if bt800.2.2 = 0 then ((record_SameCommit.f k a0_0 l0_1 bt800.1 bt800.2.1).bind fun t806 => (if t806 = true then (cressetlaw03_RecordBack.j0 k a1_0 l1_1 a1_2 a2_0 a2_1 a2_2 a2_3 a2_4 a2_5 a2_6 a2_7) else (some false))) else (some false))) else ((cressetref03_CheckCommit.f k a0_0 l0_1).bind fun t807 => (if bt796.2 = t807 then (cressetlaw03_RecordBack.j0 k a1_0 l1_1 a1_2 a2_0 a2_1 a2_2 a2_3 a2_4 a2_5 a2_6 a2_7) else (some false))))) else (some false))) = some true := h
 clear h
 replace H := Option.bind_eq_some_iff.mp H
 obtain ⟨t795, A40, H⟩ := H
 replace H : (if t795 = true then ((record_Commit.f k a0_0 l0_1).bind fun bt796 => (if bt796.2 = 0 then ((record_TakeCommit.f k bt796.1).bind fun bt800 => (if bt800.2.2 = 0 then ((record_SameCommit.f k a0_0 l0_1 bt800.1 bt800.2.1).bind fun t806 => (if t806 = true then (cressetlaw03_RecordBack.j0 k a1_0 l1_1 a1_2 a2_0 a2_1 a2_2 a2_3 a2_4 a2_5 a2_6 a2_7) else (some false))) else (some false))) else ((cressetref03_CheckCommit.f k a0_0 l0_1).bind fun t807 => (if bt796.2 = t807 then (cressetlaw03_RecordBack.j0 k a1_0 l1_1 a1_2 a2_0 a2_1 a2_2 a2_3 a2_4 a2_5 a2_6 a2_7) else (some false))))) else (some false)) = some true := H
 have A4 := Aside0.mk A40
 clear A40
 by_cases c5 : t795 = true
 ·
  subst c5
  have H1 : ((record_Commit.f k a0_0 l0_1).bind fun bt796 => (if bt796.2 = 0 then ((record_TakeCommit.f k bt796.1).bind fun bt800 => (if bt800.2.2 = 0 then ((record_SameCommit.f k a0_0 l0_1 bt800.1 bt800.2.1).bind fun t806 => (if t806 = true then (cressetlaw03_RecordBack.j0 k a1_0 l1_1 a1_2 a2_0 a2_1 a2_2 a2_3 a2_4 a2_5 a2_6 a2_7) else (some false))) else (some false))) else ((cressetref03_CheckCommit.f k a0_0 l0_1).bind fun t807 => (if bt796.2 = t807 then (cressetlaw03_RecordBack.j0 k a1_0 l1_1 a1_2 a2_0 a2_1 a2_2 a2_3 a2_4 a2_5 a2_6 a2_7) else (some false))))) = some true := by rw [if_pos rfl] at H; first | done | exact H
  clear H
  have H := H1
  clear H1
  replace H := Option.bind_eq_some_iff.mp H
  obtain ⟨⟨t796, t799⟩, A60, H⟩ := H
  replace H : (if t799 = 0 then ((record_TakeCommit.f k t796).bind fun bt800 => (if bt800.2.2 = 0 then ((record_SameCommit.f k a0_0 l0_1 bt800.1 bt800.2.1).bind fun t806 => (if t806 = true then (cressetlaw03_RecordBack.j0 k a1_0 l1_1 a1_2 a2_0 a2_1 a2_2 a2_3 a2_4 a2_5 a2_6 a2_7) else (some false))) else (some false))) else ((cressetref03_CheckCommit.f k a0_0 l0_1).bind fun t807 => (if t799 = t807 then (cressetlaw03_RecordBack.j0 k a1_0 l1_1 a1_2 a2_0 a2_1 a2_2 a2_3 a2_4 a2_5 a2_6 a2_7) else (some false)))) = some true := H
  have A6 := Aside0.mk A60
  clear A60
  have HC7 := Aside0.mk H
  clear H
  go_enter Try.func9, Try.ntmps9
  go_upto_if 27 with (first | ((with_reducible refine gate_dst (N := 3) rfl ?_); refine box_event ?hg (N := 3) ?hd (cs := #[.int .i64 a0_0, .slice A0_1 l0_1.length c0_1]) (t := 24) ?hr ?_; (case hd => rfl); (case hg => rfl); (case hr => first | (go_simp; done) | (go_simp; rfl)); intro gb792 hg w8 hbox hb; have n0_ := Aside0.mk (below_step (by repeat (first | (with_reducible first | exact HB.out | apply below_alloc | apply pw_below_drewN | apply below_drew1) | exact HB.out)) hb); have n1_ := Aside0.mk (hbox); have n2_ := Aside0.mk ((by rw [hg]; exact (below_size (by repeat (first | (with_reducible first | exact HB.out | apply below_alloc | apply pw_below_drewN | apply below_drew1) | exact HB.out))) : w.heap.size ≤ gb792)); have n3_ := Aside0.mk ((by rw [hg]; exact (below_size (by repeat (first | (with_reducible first | exact HB.out | apply below_alloc | apply pw_below_drewN | apply below_drew1) | exact HB.out))) : w.heap.size ≤ gb792)); clear HB; have HB := n0_; have BK792 := n1_; have GW792 := n2_; have GE792 := n3_; clear n0_ n1_ n2_ n3_; clear hb hbox hg) | ((with_reducible refine gate_dst (N := 4) rfl ?_); refine box_event ?hg (N := 4) ?hd (cs := #[.int .i64 a1_0, .slice A1_1 l1_1.length c1_1, .bool a1_2]) (t := 27) ?hr ?_; (case hd => rfl); (case hg => rfl); (case hr => first | (go_simp; done) | (go_simp; rfl)); intro gb793 hg w9 hbox hb; have n0_ := Aside0.mk (blk_below (g := gb792) (o := .cells #[.int .i64 a0_0, .slice A0_1 l0_1.length c0_1] 24 (0, 0)) (by (with_reducible repeat (first | refine blk_drewN ?_ _ | refine blk_drew ?_ | refine blk_alloc ?_ _)); exact BK792.out) hb); have n1_ := Aside0.mk (below_step (by repeat (first | (with_reducible first | exact HB.out | apply below_alloc | apply pw_below_drewN | apply below_drew1 | refine below_set ?_ GE792.out) | exact HB.out)) hb); have n2_ := Aside0.mk (hbox); have n3_ := Aside0.mk ((by rw [hg]; exact (below_size (by repeat (first | (with_reducible first | exact HB.out | apply below_alloc | apply pw_below_drewN | apply below_drew1 | refine below_set ?_ GE792.out) | exact HB.out))) : w.heap.size ≤ gb793)); have n4_ := Aside0.mk ((by rw [hg]; exact (below_size (by repeat (first | (with_reducible first | exact HB.out | apply below_alloc | apply pw_below_drewN | apply below_drew1 | refine below_set ?_ GE792.out) | exact HB.out))) : w.heap.size ≤ gb793)); have n5_ := Aside0.mk ((by rw [hg]; exact Nat.ne_of_lt (blk_lt (g := gb792) (o := .cells #[.int .i64 a0_0, .slice A0_1 l0_1.length c0_1] 24 (0, 0)) (by (with_reducible repeat (first | refine blk_drewN ?_ _ | refine blk_drew ?_ | refine blk_alloc ?_ _)); exact BK792.out)) : gb792 ≠ gb793)); have n6_ := Aside0.mk ((by rw [hg]; exact Nat.ne_of_gt (blk_lt (g := gb792) (o := .cells #[.int .i64 a0_0, .slice A0_1 l0_1.length c0_1] 24 (0, 0)) (by (with_reducible repeat (first | refine blk_drewN ?_ _ | refine blk_drew ?_ | refine blk_alloc ?_ _)); exact BK792.out)) : gb793 ≠ gb792)); clear BK792; clear HB; have BK792 := n0_; have HB := n1_; have BK793 := n2_; have GW793 := n3_; have GE793 := n4_; have NB792_793 := n5_; have NB793_792 := n6_; clear n0_ n1_ n2_ n3_ n4_ n5_ n6_; clear hb hbox hg) | ((with_reducible refine gate_dst (N := 5) rfl ?_); refine box_event ?hg (N := 5) ?hd (cs := #[.int .i64 a2_0, .int .i64 a2_1, .int .i64 a2_2, .int .i64 a2_3, .int .i64 a2_4, .int .i64 a2_5, .int .i64 a2_6, .int .i64 a2_7]) (t := 31) ?hr ?_; (case hd => rfl); (case hg => rfl); (case hr => first | (go_simp; done) | (go_simp; rfl)); intro gb794 hg w10 hbox hb; have n0_ := Aside0.mk (blk_below (g := gb792) (o := .cells #[.int .i64 a0_0, .slice A0_1 l0_1.length c0_1] 24 (0, 0)) (by (with_reducible repeat (first | refine blk_drewN ?_ _ | refine blk_drew ?_ | refine blk_alloc ?_ _)); exact BK792.out) hb); have n1_ := Aside0.mk (blk_below (g := gb793) (o := .cells #[.int .i64 a1_0, .slice A1_1 l1_1.length c1_1, .bool a1_2] 27 (0, 0)) (by (with_reducible repeat (first | refine blk_drewN ?_ _ | refine blk_drew ?_ | refine blk_alloc ?_ _)); exact BK793.out) hb); have n2_ := Aside0.mk (below_step (by repeat (first | (with_reducible first | exact HB.out | apply below_alloc | apply pw_below_drewN | apply below_drew1 | refine below_set ?_ GE792.out | refine below_set ?_ GE793.out) | exact HB.out)) hb); have n3_ := Aside0.mk (hbox); have n4_ := Aside0.mk ((by rw [hg]; exact (below_size (by repeat (first | (with_reducible first | exact HB.out | apply below_alloc | apply pw_below_drewN | apply below_drew1 | refine below_set ?_ GE792.out | refine below_set ?_ GE793.out) | exact HB.out))) : w.heap.size ≤ gb794)); have n5_ := Aside0.mk ((by rw [hg]; exact (below_size (by repeat (first | (with_reducible first | exact HB.out | apply below_alloc | apply pw_below_drewN | apply below_drew1 | refine below_set ?_ GE792.out | refine below_set ?_ GE793.out) | exact HB.out))) : w.heap.size ≤ gb794)); have n6_ := Aside0.mk ((by rw [hg]; exact Nat.ne_of_lt (blk_lt (g := gb792) (o := .cells #[.int .i64 a0_0, .slice A0_1 l0_1.length c0_1] 24 (0, 0)) (by (with_reducible repeat (first | refine blk_drewN ?_ _ | refine blk_drew ?_ | refine blk_alloc ?_ _)); exact BK792.out)) : gb792 ≠ gb794)); have n7_ := Aside0.mk ((by rw [hg]; exact Nat.ne_of_gt (blk_lt (g := gb792) (o := .cells #[.int .i64 a0_0, .slice A0_1 l0_1.length c0_1] 24 (0, 0)) (by (with_reducible repeat (first | refine blk_drewN ?_ _ | refine blk_drew ?_ | refine blk_alloc ?_ _)); exact BK792.out)) : gb794 ≠ gb792)); have n8_ := Aside0.mk ((by rw [hg]; exact Nat.ne_of_lt (blk_lt (g := gb793) (o := .cells #[.int .i64 a1_0, .slice A1_1 l1_1.length c1_1, .bool a1_2] 27 (0, 0)) (by (with_reducible repeat (first | refine blk_drewN ?_ _ | refine blk_drew ?_ | refine blk_alloc ?_ _)); exact BK793.out)) : gb793 ≠ gb794)); have n9_ := Aside0.mk ((by rw [hg]; exact Nat.ne_of_gt (blk_lt (g := gb793) (o := .cells #[.int .i64 a1_0, .slice A1_1 l1_1.length c1_1, .bool a1_2] 27 (0, 0)) (by (with_reducible repeat (first | refine blk_drewN ?_ _ | refine blk_drew ?_ | refine blk_alloc ?_ _)); exact BK793.out)) : gb794 ≠ gb793)); clear BK792; clear BK793; clear HB; have BK792 := n0_; have BK793 := n1_; have HB := n2_; have BK794 := n3_; have GW794 := n4_; have GE794 := n5_; have NB792_794 := n6_; have NB794_792 := n7_; have NB793_794 := n8_; have NB794_793 := n9_; clear n0_ n1_ n2_ n3_ n4_ n5_ n6_ n7_ n8_ n9_; clear hb hbox hg) | ((with_reducible refine gate_callee (f := 17) rfl ?_); refine goesL_ (some 19) rfl rfl Try.func17 (by kernel_rfl) rfl #[] rfl (by (try simp only [List.map_toArray, List.map_cons, List.map_nil]); first | done | rfl | (simp only [List.length_drop, List.length_take]; rfl)) ?_; (with_reducible refine (cressetlaw03_live.calls k  true _ A4.out).mono ?_); rintro e w11 ⟨rfl, hb⟩; refine ⟨_, rfl, ?_⟩; have n0_ := Aside0.mk (blk_below (g := gb792) (o := .cells #[.int .i64 a0_0, .slice A0_1 l0_1.length c0_1] 24 (0, 0)) (by (with_reducible repeat (first | refine blk_drewN ?_ _ | refine blk_drew ?_ | refine blk_alloc ?_ _)); exact BK792.out) hb); have n1_ := Aside0.mk (blk_below (g := gb793) (o := .cells #[.int .i64 a1_0, .slice A1_1 l1_1.length c1_1, .bool a1_2] 27 (0, 0)) (by (with_reducible repeat (first | refine blk_drewN ?_ _ | refine blk_drew ?_ | refine blk_alloc ?_ _)); exact BK793.out) hb); have n2_ := Aside0.mk (blk_below (g := gb794) (o := .cells #[.int .i64 a2_0, .int .i64 a2_1, .int .i64 a2_2, .int .i64 a2_3, .int .i64 a2_4, .int .i64 a2_5, .int .i64 a2_6, .int .i64 a2_7] 31 (0, 0)) (by (with_reducible repeat (first | refine blk_drewN ?_ _ | refine blk_drew ?_ | refine blk_alloc ?_ _)); exact BK794.out) hb); have n3_ := Aside0.mk (below_step (by repeat (first | (with_reducible first | exact HB.out | apply below_alloc | apply pw_below_drewN | apply below_drew1 | refine below_set ?_ GE792.out | refine below_set ?_ GE793.out | refine below_set ?_ GE794.out) | exact HB.out)) hb); clear BK792; clear BK793; clear BK794; clear HB; have BK792 := n0_; have BK793 := n1_; have BK794 := n2_; have HB := n3_; clear n0_ n1_ n2_ n3_; (try clear hb); (try clear hb2); (try clear hk); (try clear hi); have hnb12 := NB792_793.out; have hnc12 := NB793_792.out; have hnb13 := NB792_794.out; have hnc13 := NB794_792.out; have hcz14_0 : w11.cell? ⟨gb792, 0, none⟩ = some (.int .i64 a0_0) := (blk_cell BK792.out 0).trans rfl; have hcz14_1 : w11.cell? ⟨gb792, 1, none⟩ = some (.slice A0_1 l0_1.length c0_1) := (blk_cell BK792.out 1).trans rfl; have hfz14_0 := blk_frozen BK792.out 0; have hfz14_1 := blk_frozen BK792.out 1) | ((with_reducible refine gate_callee (f := 24) rfl ?_); refine goesL_ (some 23) rfl rfl Try.func24 (by kernel_rfl) rfl #[.agg #[.int .i64 a0_0, .slice A0_1 l0_1.length c0_1]] rfl (by (try simp only [List.map_toArray, List.map_cons, List.map_nil]); first | done | rfl | (simp only [List.length_drop, List.length_take]; rfl)) ?_; (with_reducible refine (record_Commit.calls k a0_0 _ _ l0_1 t796 t799 _ ?side1 ?side2 A6.out).mono ?_); (case side1 => repeat (first | exact (Kd.C_below HR0_1.out HB.out) | (with_reducible refine Kd.C_alloc ?_ _) | (with_reducible refine Kd.C_drewN ?_ _) | (with_reducible refine Kd.C_drew ?_))); (case side2 => exact HC0_1.out); rintro e w15 ⟨v797, rfl, ho0, hb⟩; refine ⟨_, rfl, ?_⟩; have n0_ := Aside0.mk (Kd.R_lower ho0 (below_size (by repeat (first | (with_reducible first | exact HB.out | apply below_alloc | apply pw_below_drewN | apply below_drew1 | refine below_set ?_ GE792.out | refine below_set ?_ GE793.out | refine below_set ?_ GE794.out) | exact HB.out)))); have n1_ := Aside0.mk (blk_below (g := gb792) (o := .cells #[.int .i64 a0_0, .slice A0_1 l0_1.length c0_1] 24 (0, 0)) (by (with_reducible repeat (first | refine blk_drewN ?_ _ | refine blk_drew ?_ | refine blk_alloc ?_ _)); exact BK792.out) hb); have n2_ := Aside0.mk (blk_below (g := gb793) (o := .cells #[.int .i64 a1_0, .slice A1_1 l1_1.length c1_1, .bool a1_2] 27 (0, 0)) (by (with_reducible repeat (first | refine blk_drewN ?_ _ | refine blk_drew ?_ | refine blk_alloc ?_ _)); exact BK793.out) hb); have n3_ := Aside0.mk (blk_below (g := gb794) (o := .cells #[.int .i64 a2_0, .int .i64 a2_1, .int .i64 a2_2, .int .i64 a2_3, .int .i64 a2_4, .int .i64 a2_5, .int .i64 a2_6, .int .i64 a2_7] 31 (0, 0)) (by (with_reducible repeat (first | refine blk_drewN ?_ _ | refine blk_drew ?_ | refine blk_alloc ?_ _)); exact BK794.out) hb); have n4_ := Aside0.mk (below_step (by repeat (first | (with_reducible first | exact HB.out | apply below_alloc | apply pw_below_drewN | apply below_drew1 | refine below_set ?_ GE792.out | refine below_set ?_ GE793.out | refine below_set ?_ GE794.out) | exact HB.out)) hb); clear BK792; clear BK793; clear BK794; clear HB; have HO798 := n0_; have BK792 := n1_; have BK793 := n2_; have BK794 := n3_; have HB := n4_; clear n0_ n1_ n2_ n3_ n4_; (try clear hb); (try clear hb2); (try clear hk); (try clear hi); (try clear ho0)))
  (try simp only [Act.put, List.setIfInBounds_toArray, List.set_cons_zero, List.set_cons_succ])
  go_cut [] (fun wc => ∃ (kq : Nat), Aside0 (cressetlaw03_RecordBack.j0 kq a1_0 l1_1 a1_2 a2_0 a2_1 a2_2 a2_3 a2_4 a2_5 a2_6 a2_7 = some true) ∧ Aside0 (kq ≤ k) ∧ Aside0 (wc.heap[gb792]? = some (.cells #[.int .i64 a0_0, (.slice A0_1 l0_1.length c0_1)] 24 (0, 0))) ∧ Aside0 (wc.heap[gb793]? = some (.cells #[.int .i64 a1_0, (.slice A1_1 l1_1.length c1_1), .bool a1_2] 27 (0, 0))) ∧ Aside0 (wc.heap[gb794]? = some (.cells #[.int .i64 a2_0, .int .i64 a2_1, .int .i64 a2_2, .int .i64 a2_3, .int .i64 a2_4, .int .i64 a2_5, .int .i64 a2_6, .int .i64 a2_7] 31 (0, 0))) ∧ Aside0 (Below w.heap.size w wc))
  case first =>
   have H := HC7.out
   clear HC7
   by_cases c16 : t799 = 0
   ·
    rw [if_pos c16] at H
    have c16b0 : (t799 == 0) = true := beq_iff_eq.mpr c16
    have c16b1 : (t799 != 0) = false := bne_eq_false_iff_eq.mpr c16
    clear c16
    (first | rw [c16b0] | (simp only [i64_w, i32_w]; rw [c16b0]) | skip)
    replace H := Option.bind_eq_some_iff.mp H
    obtain ⟨⟨t800, t801, t804⟩, A170, H⟩ := H
    replace H : (if t804 = 0 then ((record_SameCommit.f k a0_0 l0_1 t800 t801).bind fun t806 => (if t806 = true then (cressetlaw03_RecordBack.j0 k a1_0 l1_1 a1_2 a2_0 a2_1 a2_2 a2_3 a2_4 a2_5 a2_6 a2_7) else (some false))) else (some false)) = some true := H
    have A17 := Aside0.mk A170
    clear A170
    by_cases c18 : t804 = 0
    ·
     rw [if_pos c18] at H
     have c18b0 : (t804 == 0) = true := beq_iff_eq.mpr c18
     have c18b1 : (t804 != 0) = false := bne_eq_false_iff_eq.mpr c18
     clear c18
     replace H := Option.bind_eq_some_iff.mp H
     obtain ⟨t806, A190, H⟩ := H
     replace H : (if t806 = true then (cressetlaw03_RecordBack.j0 k a1_0 l1_1 a1_2 a2_0 a2_1 a2_2 a2_3 a2_4 a2_5 a2_6 a2_7) else (some false)) = some true := H
     have A19 := Aside0.mk A190
     clear A190
     by_cases c20 : t806 = true
     ·
      subst c20
      have H1 : (cressetlaw03_RecordBack.j0 k a1_0 l1_1 a1_2 a2_0 a2_1 a2_2 a2_3 a2_4 a2_5 a2_6 a2_7) = some true := by rw [if_pos rfl] at H; first | done | exact H
      clear H
      have H := H1
      clear H1
      have H' := Aside0.mk H
      clear H
      obtain ⟨Ao21, co21, eo21⟩ := Kd.R_slice HO798.out
      subst eo21
      go_wp2_with (first | ((with_reducible refine gate_callee (f := 31) rfl ?_); refine goesL_ (some 30) rfl rfl Try.func31 (by kernel_rfl) rfl #[.slice Ao21 t796.length co21] rfl (by (try simp only [List.map_toArray, List.map_cons, List.map_nil]); first | done | rfl | (simp only [List.length_drop, List.length_take]; rfl)) ?_; (with_reducible refine (record_TakeCommit.calls k _ _ t796 t800 t801 t804 _ ?side1 ?side2 A17.out).mono ?_); (case side1 => repeat (first | exact (Kd.R_reads' HO798.out).2.2 | (with_reducible refine Kd.C_alloc ?_ _) | (with_reducible refine Kd.C_drewN ?_ _) | (with_reducible refine Kd.C_drew ?_))); (case side2 => exact (Kd.R_reads' HO798.out).2.1); rintro e w22 ⟨v802, rfl, ho0, hb⟩; refine ⟨_, rfl, ?_⟩; have n0_ := Aside0.mk (Kd.R_below (by (with_reducible repeat (first | apply Kd.R_alloc | apply Kd.R_drewN | apply Kd.R_drew)); exact HO798.out) hb); have n1_ := Aside0.mk (Kd.R_lower ho0 (below_size (by repeat (first | (with_reducible first | exact HB.out | apply below_alloc | apply pw_below_drewN | apply below_drew1 | refine below_set ?_ GE792.out | refine below_set ?_ GE793.out | refine below_set ?_ GE794.out) | exact HB.out)))); have n2_ := Aside0.mk (blk_below (g := gb792) (o := .cells #[.int .i64 a0_0, .slice A0_1 l0_1.length c0_1] 24 (0, 0)) (by (with_reducible repeat (first | refine blk_drewN ?_ _ | refine blk_drew ?_ | refine blk_alloc ?_ _)); exact BK792.out) hb); have n3_ := Aside0.mk (blk_below (g := gb793) (o := .cells #[.int .i64 a1_0, .slice A1_1 l1_1.length c1_1, .bool a1_2] 27 (0, 0)) (by (with_reducible repeat (first | refine blk_drewN ?_ _ | refine blk_drew ?_ | refine blk_alloc ?_ _)); exact BK793.out) hb); have n4_ := Aside0.mk (blk_below (g := gb794) (o := .cells #[.int .i64 a2_0, .int .i64 a2_1, .int .i64 a2_2, .int .i64 a2_3, .int .i64 a2_4, .int .i64 a2_5, .int .i64 a2_6, .int .i64 a2_7] 31 (0, 0)) (by (with_reducible repeat (first | refine blk_drewN ?_ _ | refine blk_drew ?_ | refine blk_alloc ?_ _)); exact BK794.out) hb); have n5_ := Aside0.mk (below_step (by repeat (first | (with_reducible first | exact HB.out | apply below_alloc | apply pw_below_drewN | apply below_drew1 | refine below_set ?_ GE792.out | refine below_set ?_ GE793.out | refine below_set ?_ GE794.out) | exact HB.out)) hb); clear HO798; clear BK792; clear BK793; clear BK794; clear HB; have HO798 := n0_; have HO803 := n1_; have BK792 := n2_; have BK793 := n3_; have BK794 := n4_; have HB := n5_; clear n0_ n1_ n2_ n3_ n4_ n5_; (try clear hb); (try clear hb2); (try clear hk); (try clear hi); (try clear ho0)) | ((with_reducible refine gate_dst (N := 9) rfl ?_); refine box_event ?hg (N := 9) ?hd (cs := #[.int .i64 0, .slice none 0 0]) (t := 24) ?hr ?_; (case hd => rfl); (case hg => rfl); (case hr => first | (go_simp; done) | (go_simp; rfl)); intro gb805 hg w23 hbox hb; have n0_ := Aside0.mk (Kd.R_below (by (with_reducible repeat (first | apply Kd.R_alloc | apply Kd.R_drewN | apply Kd.R_drew)); exact HO798.out) hb); have n1_ := Aside0.mk (Kd.R_below (by (with_reducible repeat (first | apply Kd.R_alloc | apply Kd.R_drewN | apply Kd.R_drew)); exact HO803.out) hb); have n2_ := Aside0.mk (blk_below (g := gb792) (o := .cells #[.int .i64 a0_0, .slice A0_1 l0_1.length c0_1] 24 (0, 0)) (by (with_reducible repeat (first | refine blk_drewN ?_ _ | refine blk_drew ?_ | refine blk_alloc ?_ _)); exact BK792.out) hb); have n3_ := Aside0.mk (blk_below (g := gb793) (o := .cells #[.int .i64 a1_0, .slice A1_1 l1_1.length c1_1, .bool a1_2] 27 (0, 0)) (by (with_reducible repeat (first | refine blk_drewN ?_ _ | refine blk_drew ?_ | refine blk_alloc ?_ _)); exact BK793.out) hb); have n4_ := Aside0.mk (blk_below (g := gb794) (o := .cells #[.int .i64 a2_0, .int .i64 a2_1, .int .i64 a2_2, .int .i64 a2_3, .int .i64 a2_4, .int .i64 a2_5, .int .i64 a2_6, .int .i64 a2_7] 31 (0, 0)) (by (with_reducible repeat (first | refine blk_drewN ?_ _ | refine blk_drew ?_ | refine blk_alloc ?_ _)); exact BK794.out) hb); have n5_ := Aside0.mk (below_step (by repeat (first | (with_reducible first | exact HB.out | apply below_alloc | apply pw_below_drewN | apply below_drew1 | refine below_set ?_ GE792.out | refine below_set ?_ GE793.out | refine below_set ?_ GE794.out) | exact HB.out)) hb); have n6_ := Aside0.mk (hbox); have n7_ := Aside0.mk ((by rw [hg]; exact (below_size (by repeat (first | (with_reducible first | exact HB.out | apply below_alloc | apply pw_below_drewN | apply below_drew1 | refine below_set ?_ GE792.out | refine below_set ?_ GE793.out | refine below_set ?_ GE794.out) | exact HB.out))) : w.heap.size ≤ gb805)); have n8_ := Aside0.mk ((by rw [hg]; exact (below_size (by repeat (first | (with_reducible first | exact HB.out | apply below_alloc | apply pw_below_drewN | apply below_drew1 | refine below_set ?_ GE792.out | refine below_set ?_ GE793.out | refine below_set ?_ GE794.out) | exact HB.out))) : w.heap.size ≤ gb805)); have n9_ := Aside0.mk ((by rw [hg]; exact Nat.ne_of_lt (blk_lt (g := gb792) (o := .cells #[.int .i64 a0_0, .slice A0_1 l0_1.length c0_1] 24 (0, 0)) (by (with_reducible repeat (first | refine blk_drewN ?_ _ | refine blk_drew ?_ | refine blk_alloc ?_ _)); exact BK792.out)) : gb792 ≠ gb805)); have n10_ := Aside0.mk ((by rw [hg]; exact Nat.ne_of_gt (blk_lt (g := gb792) (o := .cells #[.int .i64 a0_0, .slice A0_1 l0_1.length c0_1] 24 (0, 0)) (by (with_reducible repeat (first | refine blk_drewN ?_ _ | refine blk_drew ?_ | refine blk_alloc ?_ _)); exact BK792.out)) : gb805 ≠ gb792)); have n11_ := Aside0.mk ((by rw [hg]; exact Nat.ne_of_lt (blk_lt (g := gb793) (o := .cells #[.int .i64 a1_0, .slice A1_1 l1_1.length c1_1, .bool a1_2] 27 (0, 0)) (by (with_reducible repeat (first | refine blk_drewN ?_ _ | refine blk_drew ?_ | refine blk_alloc ?_ _)); exact BK793.out)) : gb793 ≠ gb805)); have n12_ := Aside0.mk ((by rw [hg]; exact Nat.ne_of_gt (blk_lt (g := gb793) (o := .cells #[.int .i64 a1_0, .slice A1_1 l1_1.length c1_1, .bool a1_2] 27 (0, 0)) (by (with_reducible repeat (first | refine blk_drewN ?_ _ | refine blk_drew ?_ | refine blk_alloc ?_ _)); exact BK793.out)) : gb805 ≠ gb793)); have n13_ := Aside0.mk ((by rw [hg]; exact Nat.ne_of_lt (blk_lt (g := gb794) (o := .cells #[.int .i64 a2_0, .int .i64 a2_1, .int .i64 a2_2, .int .i64 a2_3, .int .i64 a2_4, .int .i64 a2_5, .int .i64 a2_6, .int .i64 a2_7] 31 (0, 0)) (by (with_reducible repeat (first | refine blk_drewN ?_ _ | refine blk_drew ?_ | refine blk_alloc ?_ _)); exact BK794.out)) : gb794 ≠ gb805)); have n14_ := Aside0.mk ((by rw [hg]; exact Nat.ne_of_gt (blk_lt (g := gb794) (o := .cells #[.int .i64 a2_0, .int .i64 a2_1, .int .i64 a2_2, .int .i64 a2_3, .int .i64 a2_4, .int .i64 a2_5, .int .i64 a2_6, .int .i64 a2_7] 31 (0, 0)) (by (with_reducible repeat (first | refine blk_drewN ?_ _ | refine blk_drew ?_ | refine blk_alloc ?_ _)); exact BK794.out)) : gb805 ≠ gb794)); clear HO798; clear HO803; clear BK792; clear BK793; clear BK794; clear HB; have HO798 := n0_; have HO803 := n1_; have BK792 := n2_; have BK793 := n3_; have BK794 := n4_; have HB := n5_; have BK805 := n6_; have GW805 := n7_; have GE805 := n8_; have NB792_805 := n9_; have NB805_792 := n10_; have NB793_805 := n11_; have NB805_793 := n12_; have NB794_805 := n13_; have NB805_794 := n14_; clear n0_ n1_ n2_ n3_ n4_ n5_ n6_ n7_ n8_ n9_ n10_ n11_ n12_ n13_ n14_; clear hb hbox hg; have hnb24 := NB805_792.out; have hnc24 := NB792_805.out; have hnb25 := NB805_793.out; have hnc25 := NB793_805.out; have hnb26 := NB805_794.out; have hnc26 := NB794_805.out; have hcz27_0 : w23.cell? ⟨gb805, 0, none⟩ = some (.int .i64 0) := (blk_cell BK805.out 0).trans rfl; have hcz27_1 : w23.cell? ⟨gb805, 1, none⟩ = some (.slice none 0 0) := (blk_cell BK805.out 1).trans rfl; have hfz27_0 := blk_frozen BK805.out 0; have hfz27_1 := blk_frozen BK805.out 1; obtain ⟨Ao28, co28, eo28⟩ := Kd.R_slice HO803.out; subst eo28; have hnb29 := NB792_793.out; have hnc29 := NB793_792.out; have hnb30 := NB792_794.out; have hnc30 := NB794_792.out; have hcz31_0 : w23.cell? ⟨gb792, 0, none⟩ = some (.int .i64 a0_0) := (blk_cell BK792.out 0).trans rfl; have hcz31_1 : w23.cell? ⟨gb792, 1, none⟩ = some (.slice A0_1 l0_1.length c0_1) := (blk_cell BK792.out 1).trans rfl; have hfz31_0 := blk_frozen BK792.out 0; have hfz31_1 := blk_frozen BK792.out 1) | (go_at_call 36; (with_reducible refine (record_SameCommit.calls k a0_0 _ _ l0_1 t800 _ _ t801 true _ ?side1 ?side2 ?side3 ?side4 A19.out).mono ?_); (case side1 => exact Kd.C_below HR0_1.out (by repeat (first | (with_reducible first | exact HB.out | apply below_alloc | apply pw_below_drewN | apply below_drew1 | refine below_set ?_ GE792.out | refine below_set ?_ GE793.out | refine below_set ?_ GE794.out | refine below_set ?_ GE805.out) | exact HB.out))); (case side2 => exact HC0_1.out); (case side3 => refine (Kd.R_reads' (e := 33) (base := w.heap.size) (ok := fun k_ => True) (n := t801.length) (c := co28) ?_).2.2; exact (by (with_reducible repeat (first | apply Kd.R_alloc | apply Kd.R_drewN | apply Kd.R_drew)); exact (Kd.R_mono (Kd.R_far (p := ⟨gb805, 1, none⟩) (Kd.R_far (p := ⟨gb805, 0, none⟩) (Kd.R_types HO803.out BK805.out (by decide)) (fun _ hk => hk.2) (.int .i64 t800)) (fun _ hk => hk.2) (.slice Ao28 t801.length co28)) (fun _ h_ => h_.1)))); (case side4 => exact (Kd.R_reads' HO803.out).2.1); rintro e w32 ⟨rfl, hb⟩; have n0_ := Aside0.mk (Kd.R_below (by (with_reducible repeat (first | apply Kd.R_alloc | apply Kd.R_drewN | apply Kd.R_drew)); exact (Kd.R_mono (Kd.R_far (p := ⟨gb805, 1, none⟩) (Kd.R_far (p := ⟨gb805, 0, none⟩) (Kd.R_types HO798.out BK805.out (by decide)) (fun _ hk => hk.2) (.int .i64 t800)) (fun _ hk => hk.2) (.slice Ao28 t801.length co28)) (fun _ h_ => h_.1))) hb); have n1_ := Aside0.mk (Kd.R_below (by (with_reducible repeat (first | apply Kd.R_alloc | apply Kd.R_drewN | apply Kd.R_drew)); exact (Kd.R_mono (Kd.R_far (p := ⟨gb805, 1, none⟩) (Kd.R_far (p := ⟨gb805, 0, none⟩) (Kd.R_types HO803.out BK805.out (by decide)) (fun _ hk => hk.2) (.int .i64 t800)) (fun _ hk => hk.2) (.slice Ao28 t801.length co28)) (fun _ h_ => h_.1))) hb); have n2_ := Aside0.mk (blk_below (g := gb792) (o := .cells #[.int .i64 a0_0, .slice A0_1 l0_1.length c0_1] 24 (0, 0)) (by (with_reducible repeat (first | refine blk_drewN ?_ _ | refine blk_drew ?_ | refine blk_alloc ?_ _)); refine blk_far ?_ NB792_805.out _; (with_reducible repeat (first | refine blk_drewN ?_ _ | refine blk_drew ?_ | refine blk_alloc ?_ _)); refine blk_far ?_ NB792_805.out _; (with_reducible repeat (first | refine blk_drewN ?_ _ | refine blk_drew ?_ | refine blk_alloc ?_ _)); exact BK792.out) hb); have n3_ := Aside0.mk (blk_below (g := gb793) (o := .cells #[.int .i64 a1_0, .slice A1_1 l1_1.length c1_1, .bool a1_2] 27 (0, 0)) (by (with_reducible repeat (first | refine blk_drewN ?_ _ | refine blk_drew ?_ | refine blk_alloc ?_ _)); refine blk_far ?_ NB793_805.out _; (with_reducible repeat (first | refine blk_drewN ?_ _ | refine blk_drew ?_ | refine blk_alloc ?_ _)); refine blk_far ?_ NB793_805.out _; (with_reducible repeat (first | refine blk_drewN ?_ _ | refine blk_drew ?_ | refine blk_alloc ?_ _)); exact BK793.out) hb); have n4_ := Aside0.mk (blk_below (g := gb794) (o := .cells #[.int .i64 a2_0, .int .i64 a2_1, .int .i64 a2_2, .int .i64 a2_3, .int .i64 a2_4, .int .i64 a2_5, .int .i64 a2_6, .int .i64 a2_7] 31 (0, 0)) (by (with_reducible repeat (first | refine blk_drewN ?_ _ | refine blk_drew ?_ | refine blk_alloc ?_ _)); refine blk_far ?_ NB794_805.out _; (with_reducible repeat (first | refine blk_drewN ?_ _ | refine blk_drew ?_ | refine blk_alloc ?_ _)); refine blk_far ?_ NB794_805.out _; (with_reducible repeat (first | refine blk_drewN ?_ _ | refine blk_drew ?_ | refine blk_alloc ?_ _)); exact BK794.out) hb); have n5_ := Aside0.mk (blk_below (g := gb805) (o := .cells #[.int .i64 t800, .slice Ao28 t801.length co28] 24 (0, 0)) (by (with_reducible repeat (first | refine blk_drewN ?_ _ | refine blk_drew ?_ | refine blk_alloc ?_ _)); refine blk_put (cs := #[.int .i64 t800, .slice none 0 0]) ?_ 1 _ rfl; (with_reducible repeat (first | refine blk_drewN ?_ _ | refine blk_drew ?_ | refine blk_alloc ?_ _)); refine blk_put (cs := #[.int .i64 0, .slice none 0 0]) ?_ 0 _ rfl; (with_reducible repeat (first | refine blk_drewN ?_ _ | refine blk_drew ?_ | refine blk_alloc ?_ _)); exact BK805.out) hb); have n6_ := Aside0.mk (below_step (by repeat (first | (with_reducible first | exact HB.out | apply below_alloc | apply pw_below_drewN | apply below_drew1 | refine below_set ?_ GE792.out | refine below_set ?_ GE793.out | refine below_set ?_ GE794.out | refine below_set ?_ GE805.out) | exact HB.out)) hb); clear HO798; clear HO803; clear BK792; clear BK793; clear BK794; clear BK805; clear HB; have HO798 := n0_; have HO803 := n1_; have BK792 := n2_; have BK793 := n3_; have BK794 := n4_; have BK805 := n5_; have HB := n6_; clear n0_ n1_ n2_ n3_ n4_ n5_ n6_; (try clear hb); (try clear hb2); (try clear hk); (try clear hi)))
      go_meet
      case rel => exact ⟨_, H', ⟨by first | omega | exact Nat.le_refl _⟩, ⟨by (with_reducible repeat (first | refine blk_drewN ?_ _ | refine blk_drew ?_ | refine blk_alloc ?_ _)); exact BK792.out⟩, ⟨by (with_reducible repeat (first | refine blk_drewN ?_ _ | refine blk_drew ?_ | refine blk_alloc ?_ _)); exact BK793.out⟩, ⟨by (with_reducible repeat (first | refine blk_drewN ?_ _ | refine blk_drew ?_ | refine blk_alloc ?_ _)); exact BK794.out⟩, ⟨by repeat (first | (with_reducible first | exact HB.out | apply below_alloc | apply pw_below_drewN | apply below_drew1 | refine below_set ?_ GE792.out | refine below_set ?_ GE793.out | refine below_set ?_ GE794.out | refine below_set ?_ GE805.out) | exact HB.out)⟩⟩
     ·
      replace c20 := Bool.eq_false_iff.mpr c20
      subst c20
      have H1 : (some false) = some true := by rw [if_neg (show ¬ (false = true) by decide)] at H; first | done | exact H
      clear H
      have H := H1
      clear H1
      exact absurd H (by simp)
    ·
     rw [if_neg c18] at H
     have c18b0 : (t804 == 0) = false := beq_eq_false_iff_ne.mpr c18
     have c18b1 : (t804 != 0) = true := bne_iff_ne.mpr c18
     exact absurd H (by simp)
   ·
    rw [if_neg c16] at H
    have c16b0 : (t799 == 0) = false := beq_eq_false_iff_ne.mpr c16
    have c16b1 : (t799 != 0) = true := bne_iff_ne.mpr c16
    (first | rw [c16b0] | (simp only [i64_w, i32_w]; rw [c16b0]) | skip)
    replace H := Option.bind_eq_some_iff.mp H
    obtain ⟨t807, A330, H⟩ := H
    replace H : (if t799 = t807 then (cressetlaw03_RecordBack.j0 k a1_0 l1_1 a1_2 a2_0 a2_1 a2_2 a2_3 a2_4 a2_5 a2_6 a2_7) else (some false)) = some true := H
    have A33 := Aside0.mk A330
    clear A330
    by_cases c34 : t799 = t807
    ·
     rw [if_pos c34] at H
     have c34b0 : (t799 == t807) = true := beq_iff_eq.mpr c34
     have c34b1 : (t799 != t807) = false := bne_eq_false_iff_eq.mpr c34
     clear c34
     have H' := Aside0.mk H
     clear H
     have hnb35 := NB792_793.out
     have hnc35 := NB793_792.out
     have hnb36 := NB792_794.out
     have hnc36 := NB794_792.out
     have hcz37_0 : w15.cell? ⟨gb792, 0, none⟩ = some (.int .i64 a0_0) := (blk_cell BK792.out 0).trans rfl
     have hcz37_1 : w15.cell? ⟨gb792, 1, none⟩ = some (.slice A0_1 l0_1.length c0_1) := (blk_cell BK792.out 1).trans rfl
     have hfz37_0 := blk_frozen BK792.out 0
     have hfz37_1 := blk_frozen BK792.out 1
     go_wp2_with (first | ((with_reducible refine gate_callee (f := 19) rfl ?_); refine goesL_ (some 43) rfl rfl Try.func19 (by kernel_rfl) rfl #[.agg #[.int .i64 a0_0, .slice A0_1 l0_1.length c0_1]] rfl (by (try simp only [List.map_toArray, List.map_cons, List.map_nil]); first | done | rfl | (simp only [List.length_drop, List.length_take]; rfl)) ?_; (with_reducible refine (cressetref03_CheckCommit.calls k a0_0 _ _ l0_1 t807 _ ?side1 ?side2 A33.out).mono ?_); (case side1 => repeat (first | exact (Kd.C_below HR0_1.out HB.out) | (with_reducible refine Kd.C_alloc ?_ _) | (with_reducible refine Kd.C_drewN ?_ _) | (with_reducible refine Kd.C_drew ?_))); (case side2 => exact HC0_1.out); rintro e w38 ⟨rfl, hb⟩; refine ⟨_, rfl, ?_⟩; have n0_ := Aside0.mk (Kd.R_below (by (with_reducible repeat (first | apply Kd.R_alloc | apply Kd.R_drewN | apply Kd.R_drew)); exact HO798.out) hb); have n1_ := Aside0.mk (blk_below (g := gb792) (o := .cells #[.int .i64 a0_0, .slice A0_1 l0_1.length c0_1] 24 (0, 0)) (by (with_reducible repeat (first | refine blk_drewN ?_ _ | refine blk_drew ?_ | refine blk_alloc ?_ _)); exact BK792.out) hb); have n2_ := Aside0.mk (blk_below (g := gb793) (o := .cells #[.int .i64 a1_0, .slice A1_1 l1_1.length c1_1, .bool a1_2] 27 (0, 0)) (by (with_reducible repeat (first | refine blk_drewN ?_ _ | refine blk_drew ?_ | refine blk_alloc ?_ _)); exact BK793.out) hb); have n3_ := Aside0.mk (blk_below (g := gb794) (o := .cells #[.int .i64 a2_0, .int .i64 a2_1, .int .i64 a2_2, .int .i64 a2_3, .int .i64 a2_4, .int .i64 a2_5, .int .i64 a2_6, .int .i64 a2_7] 31 (0, 0)) (by (with_reducible repeat (first | refine blk_drewN ?_ _ | refine blk_drew ?_ | refine blk_alloc ?_ _)); exact BK794.out) hb); have n4_ := Aside0.mk (below_step (by repeat (first | (with_reducible first | exact HB.out | apply below_alloc | apply pw_below_drewN | apply below_drew1 | refine below_set ?_ GE792.out | refine below_set ?_ GE793.out | refine below_set ?_ GE794.out) | exact HB.out)) hb); clear HO798; clear BK792; clear BK793; clear BK794; clear HB; have HO798 := n0_; have BK792 := n1_; have BK793 := n2_; have BK794 := n3_; have HB := n4_; clear n0_ n1_ n2_ n3_ n4_; (try clear hb); (try clear hb2); (try clear hk); (try clear hi)))
     go_meet
     case rel => exact ⟨_, H', ⟨by first | omega | exact Nat.le_refl _⟩, ⟨by (with_reducible repeat (first | refine blk_drewN ?_ _ | refine blk_drew ?_ | refine blk_alloc ?_ _)); exact BK792.out⟩, ⟨by (with_reducible repeat (first | refine blk_drewN ?_ _ | refine blk_drew ?_ | refine blk_alloc ?_ _)); exact BK793.out⟩, ⟨by (with_reducible repeat (first | refine blk_drewN ?_ _ | refine blk_drew ?_ | refine blk_alloc ?_ _)); exact BK794.out⟩, ⟨by repeat (first | (with_reducible first | exact HB.out | apply below_alloc | apply pw_below_drewN | apply below_drew1 | refine below_set ?_ GE792.out | refine below_set ?_ GE793.out | refine below_set ?_ GE794.out) | exact HB.out)⟩⟩
    ·
     rw [if_neg c34] at H
     have c34b0 : (t799 == t807) = false := beq_eq_false_iff_ne.mpr c34
     have c34b1 : (t799 != t807) = true := bne_iff_ne.mpr c34
     exact absurd H (by simp)
  case rest =>
   clear HC7
   try clear c1
   try clear c2
   try clear p2
   try clear c3
   try clear c5
   try clear c9
   try clear c12
   try clear c13
   try clear c16
   try clear c16b0
   try clear c16b1
   try clear c17
   try clear c18
   try clear c18b0
   try clear c18b1
   try clear c19
   try clear c20
   try clear c24
   try clear c25
   try clear c26
   try clear c29
   try clear c30
   try clear c31
   try clear c34
   try clear c34b0
   try clear c34b1
   try clear c35
   try clear c36
   try clear hcz14_0
   try clear hcz14_1
   try clear hcz27_0
   try clear hcz27_1
   try clear hcz31_0
   try clear hcz31_1
   try clear hcz37_0
   try clear hcz37_1
   try clear hfz14_0
   try clear hfz14_1
   try clear hfz27_0
   try clear hfz27_1
   try clear hfz31_0
   try clear hfz31_1
   try clear hfz37_0
   try clear hfz37_1
   obtain ⟨kq, HA, HJ6, BK792, BK793, BK794, HB⟩ := hcut
   cases kq with
   | zero => exact absurd HA.out (by simp [cressetlaw03_RecordBack.j0])
   | succ kj6 =>
    have H := HA.out
    clear HA
    simp only [cressetlaw03_RecordBack.j0] at H
    replace H := Option.bind_eq_some_iff.mp H
    obtain ⟨⟨t808, t811⟩, A390, H⟩ := H
    replace H : (if t811 = 0 then ((record_TakeChunk.f kj6 t808).bind fun bt812 => (if bt812.2.2.2 = 0 then ((record_SameChunk.f kj6 a1_0 l1_1 a1_2 bt812.1 bt812.2.1 bt812.2.2.1).bind fun t819 => (if t819 = true then (cressetlaw03_RecordBack.j1 kj6 a2_0 a2_1 a2_2 a2_3 a2_4 a2_5 a2_6 a2_7) else (some false))) else (some false))) else ((cressetref03_CheckChunk.f kj6 a1_0 l1_1 a1_2).bind fun t820 => (if t811 = t820 then (cressetlaw03_RecordBack.j1 kj6 a2_0 a2_1 a2_2 a2_3 a2_4 a2_5 a2_6 a2_7) else (some false)))) = some true := H
    have A39 := Aside0.mk A390
    clear A390
    have HC40 := Aside0.mk H
    clear H
    have hnb41 := NB793_792.out
    have hnc41 := NB792_793.out
    have hnb42 := NB793_794.out
    have hnc42 := NB794_793.out
    have hcz43_0 : wc.cell? ⟨gb793, 0, none⟩ = some (.int .i64 a1_0) := (blk_cell BK793.out 0).trans rfl
    have hcz43_1 : wc.cell? ⟨gb793, 1, none⟩ = some (.slice A1_1 l1_1.length c1_1) := (blk_cell BK793.out 1).trans rfl
    have hcz43_2 : wc.cell? ⟨gb793, 2, none⟩ = some (.bool a1_2) := (blk_cell BK793.out 2).trans rfl
    have hfz43_0 := blk_frozen BK793.out 0
    have hfz43_1 := blk_frozen BK793.out 1
    have hfz43_2 := blk_frozen BK793.out 2
    go_upto_if 51 with (first | ((with_reducible refine gate_callee (f := 26) rfl ?_); refine goesL_ (some 47) rfl rfl Try.func26 (by kernel_rfl) rfl #[.agg #[.int .i64 a1_0, .slice A1_1 l1_1.length c1_1, .bool a1_2]] rfl (by (try simp only [List.map_toArray, List.map_cons, List.map_nil]); first | done | rfl | (simp only [List.length_drop, List.length_take]; rfl)) ?_; (with_reducible refine (record_Chunk.calls kj6 a1_0 _ _ l1_1 a1_2 t808 t811 _ ?side1 ?side2 A39.out).mono ?_); (case side1 => repeat (first | exact (Kd.C_below HR1_1.out HB.out) | (with_reducible refine Kd.C_alloc ?_ _) | (with_reducible refine Kd.C_drewN ?_ _) | (with_reducible refine Kd.C_drew ?_))); (case side2 => exact HC1_1.out); rintro e w44 ⟨v809, rfl, ho0, hb⟩; refine ⟨_, rfl, ?_⟩; have n0_ := Aside0.mk (Kd.R_lower ho0 (below_size (by repeat (first | (with_reducible first | exact HB.out | apply below_alloc | apply pw_below_drewN | apply below_drew1 | refine below_set ?_ GE792.out | refine below_set ?_ GE793.out | refine below_set ?_ GE794.out) | exact HB.out)))); have n1_ := Aside0.mk (blk_below (g := gb792) (o := .cells #[.int .i64 a0_0, .slice A0_1 l0_1.length c0_1] 24 (0, 0)) (by (with_reducible repeat (first | refine blk_drewN ?_ _ | refine blk_drew ?_ | refine blk_alloc ?_ _)); exact BK792.out) hb); have n2_ := Aside0.mk (blk_below (g := gb793) (o := .cells #[.int .i64 a1_0, .slice A1_1 l1_1.length c1_1, .bool a1_2] 27 (0, 0)) (by (with_reducible repeat (first | refine blk_drewN ?_ _ | refine blk_drew ?_ | refine blk_alloc ?_ _)); exact BK793.out) hb); have n3_ := Aside0.mk (blk_below (g := gb794) (o := .cells #[.int .i64 a2_0, .int .i64 a2_1, .int .i64 a2_2, .int .i64 a2_3, .int .i64 a2_4, .int .i64 a2_5, .int .i64 a2_6, .int .i64 a2_7] 31 (0, 0)) (by (with_reducible repeat (first | refine blk_drewN ?_ _ | refine blk_drew ?_ | refine blk_alloc ?_ _)); exact BK794.out) hb); have n4_ := Aside0.mk (below_step (by repeat (first | (with_reducible first | exact HB.out | apply below_alloc | apply pw_below_drewN | apply below_drew1 | refine below_set ?_ GE792.out | refine below_set ?_ GE793.out | refine below_set ?_ GE794.out) | exact HB.out)) hb); clear BK792; clear BK793; clear BK794; clear HB; have HO810 := n0_; have BK792 := n1_; have BK793 := n2_; have BK794 := n3_; have HB := n4_; clear n0_ n1_ n2_ n3_ n4_; (try clear hb); (try clear hb2); (try clear hk); (try clear hi); (try clear ho0)))
    (try simp only [Act.put, List.setIfInBounds_toArray, List.set_cons_zero, List.set_cons_succ])
    go_cut [] (fun wc => ∃ (kq : Nat), Aside0 (cressetlaw03_RecordBack.j1 kq a2_0 a2_1 a2_2 a2_3 a2_4 a2_5 a2_6 a2_7 = some true) ∧ Aside0 (kq ≤ kj6) ∧ Aside0 (wc.heap[gb792]? = some (.cells #[.int .i64 a0_0, (.slice A0_1 l0_1.length c0_1)] 24 (0, 0))) ∧ Aside0 (wc.heap[gb793]? = some (.cells #[.int .i64 a1_0, (.slice A1_1 l1_1.length c1_1), .bool a1_2] 27 (0, 0))) ∧ Aside0 (wc.heap[gb794]? = some (.cells #[.int .i64 a2_0, .int .i64 a2_1, .int .i64 a2_2, .int .i64 a2_3, .int .i64 a2_4, .int .i64 a2_5, .int .i64 a2_6, .int .i64 a2_7] 31 (0, 0))) ∧ Aside0 (Below w.heap.size w wc))
    case first =>
     have H := HC40.out
     clear HC40
     by_cases c45 : t811 = 0
     ·
      rw [if_pos c45] at H
      have c45b0 : (t811 == 0) = true := beq_iff_eq.mpr c45
      have c45b1 : (t811 != 0) = false := bne_eq_false_iff_eq.mpr c45
      clear c45
      (first | rw [c45b0] | (simp only [i64_w, i32_w]; rw [c45b0]) | skip)
      replace H := Option.bind_eq_some_iff.mp H
      obtain ⟨⟨t812, t813, t816, t817⟩, A460, H⟩ := H
      replace H : (if t817 = 0 then ((record_SameChunk.f kj6 a1_0 l1_1 a1_2 t812 t813 t816).bind fun t819 => (if t819 = true then (cressetlaw03_RecordBack.j1 kj6 a2_0 a2_1 a2_2 a2_3 a2_4 a2_5 a2_6 a2_7) else (some false))) else (some false)) = some true := H
      have A46 := Aside0.mk A460
      clear A460
      by_cases c47 : t817 = 0
      ·
       rw [if_pos c47] at H
       have c47b0 : (t817 == 0) = true := beq_iff_eq.mpr c47
       have c47b1 : (t817 != 0) = false := bne_eq_false_iff_eq.mpr c47
       clear c47
       replace H := Option.bind_eq_some_iff.mp H
       obtain ⟨t819, A480, H⟩ := H
       replace H : (if t819 = true then (cressetlaw03_RecordBack.j1 kj6 a2_0 a2_1 a2_2 a2_3 a2_4 a2_5 a2_6 a2_7) else (some false)) = some true := H
       have A48 := Aside0.mk A480
       clear A480
       by_cases c49 : t819 = true
       ·
        subst c49
        have H1 : (cressetlaw03_RecordBack.j1 kj6 a2_0 a2_1 a2_2 a2_3 a2_4 a2_5 a2_6 a2_7) = some true := by rw [if_pos rfl] at H; first | done | exact H
        clear H
        have H := H1
        clear H1
        have H' := Aside0.mk H
        clear H
        obtain ⟨Ao50, co50, eo50⟩ := Kd.R_slice HO810.out
        subst eo50
        go_wp2_with (first | ((with_reducible refine gate_callee (f := 38) rfl ?_); refine goesL_ (some 54) rfl rfl Try.func38 (by kernel_rfl) rfl #[.slice Ao50 t808.length co50] rfl (by (try simp only [List.map_toArray, List.map_cons, List.map_nil]); first | done | rfl | (simp only [List.length_drop, List.length_take]; rfl)) ?_; (with_reducible refine (record_TakeChunk.calls kj6 _ _ t808 t812 t813 t816 t817 _ ?side1 ?side2 A46.out).mono ?_); (case side1 => repeat (first | exact (Kd.R_reads' HO810.out).2.2 | (with_reducible refine Kd.C_alloc ?_ _) | (with_reducible refine Kd.C_drewN ?_ _) | (with_reducible refine Kd.C_drew ?_))); (case side2 => exact (Kd.R_reads' HO810.out).2.1); rintro e w51 ⟨v814, rfl, ho0, hb⟩; refine ⟨_, rfl, ?_⟩; have n0_ := Aside0.mk (Kd.R_below (by (with_reducible repeat (first | apply Kd.R_alloc | apply Kd.R_drewN | apply Kd.R_drew)); exact HO810.out) hb); have n1_ := Aside0.mk (Kd.R_lower ho0 (below_size (by repeat (first | (with_reducible first | exact HB.out | apply below_alloc | apply pw_below_drewN | apply below_drew1 | refine below_set ?_ GE792.out | refine below_set ?_ GE793.out | refine below_set ?_ GE794.out) | exact HB.out)))); have n2_ := Aside0.mk (blk_below (g := gb792) (o := .cells #[.int .i64 a0_0, .slice A0_1 l0_1.length c0_1] 24 (0, 0)) (by (with_reducible repeat (first | refine blk_drewN ?_ _ | refine blk_drew ?_ | refine blk_alloc ?_ _)); exact BK792.out) hb); have n3_ := Aside0.mk (blk_below (g := gb793) (o := .cells #[.int .i64 a1_0, .slice A1_1 l1_1.length c1_1, .bool a1_2] 27 (0, 0)) (by (with_reducible repeat (first | refine blk_drewN ?_ _ | refine blk_drew ?_ | refine blk_alloc ?_ _)); exact BK793.out) hb); have n4_ := Aside0.mk (blk_below (g := gb794) (o := .cells #[.int .i64 a2_0, .int .i64 a2_1, .int .i64 a2_2, .int .i64 a2_3, .int .i64 a2_4, .int .i64 a2_5, .int .i64 a2_6, .int .i64 a2_7] 31 (0, 0)) (by (with_reducible repeat (first | refine blk_drewN ?_ _ | refine blk_drew ?_ | refine blk_alloc ?_ _)); exact BK794.out) hb); have n5_ := Aside0.mk (below_step (by repeat (first | (with_reducible first | exact HB.out | apply below_alloc | apply pw_below_drewN | apply below_drew1 | refine below_set ?_ GE792.out | refine below_set ?_ GE793.out | refine below_set ?_ GE794.out) | exact HB.out)) hb); clear HO810; clear BK792; clear BK793; clear BK794; clear HB; have HO810 := n0_; have HO815 := n1_; have BK792 := n2_; have BK793 := n3_; have BK794 := n4_; have HB := n5_; clear n0_ n1_ n2_ n3_ n4_ n5_; (try clear hb); (try clear hb2); (try clear hk); (try clear hi); (try clear ho0)) | ((with_reducible refine gate_dst (N := 13) rfl ?_); refine box_event ?hg (N := 13) ?hd (cs := #[.int .i64 0, .slice none 0 0, .bool false]) (t := 27) ?hr ?_; (case hd => rfl); (case hg => rfl); (case hr => first | (go_simp; done) | (go_simp; rfl)); intro gb818 hg w52 hbox hb; have n0_ := Aside0.mk (Kd.R_below (by (with_reducible repeat (first | apply Kd.R_alloc | apply Kd.R_drewN | apply Kd.R_drew)); exact HO810.out) hb); have n1_ := Aside0.mk (Kd.R_below (by (with_reducible repeat (first | apply Kd.R_alloc | apply Kd.R_drewN | apply Kd.R_drew)); exact HO815.out) hb); have n2_ := Aside0.mk (blk_below (g := gb792) (o := .cells #[.int .i64 a0_0, .slice A0_1 l0_1.length c0_1] 24 (0, 0)) (by (with_reducible repeat (first | refine blk_drewN ?_ _ | refine blk_drew ?_ | refine blk_alloc ?_ _)); exact BK792.out) hb); have n3_ := Aside0.mk (blk_below (g := gb793) (o := .cells #[.int .i64 a1_0, .slice A1_1 l1_1.length c1_1, .bool a1_2] 27 (0, 0)) (by (with_reducible repeat (first | refine blk_drewN ?_ _ | refine blk_drew ?_ | refine blk_alloc ?_ _)); exact BK793.out) hb); have n4_ := Aside0.mk (blk_below (g := gb794) (o := .cells #[.int .i64 a2_0, .int .i64 a2_1, .int .i64 a2_2, .int .i64 a2_3, .int .i64 a2_4, .int .i64 a2_5, .int .i64 a2_6, .int .i64 a2_7] 31 (0, 0)) (by (with_reducible repeat (first | refine blk_drewN ?_ _ | refine blk_drew ?_ | refine blk_alloc ?_ _)); exact BK794.out) hb); have n5_ := Aside0.mk (below_step (by repeat (first | (with_reducible first | exact HB.out | apply below_alloc | apply pw_below_drewN | apply below_drew1 | refine below_set ?_ GE792.out | refine below_set ?_ GE793.out | refine below_set ?_ GE794.out) | exact HB.out)) hb); have n6_ := Aside0.mk (hbox); have n7_ := Aside0.mk ((by rw [hg]; exact (below_size (by repeat (first | (with_reducible first | exact HB.out | apply below_alloc | apply pw_below_drewN | apply below_drew1 | refine below_set ?_ GE792.out | refine below_set ?_ GE793.out | refine below_set ?_ GE794.out) | exact HB.out))) : w.heap.size ≤ gb818)); have n8_ := Aside0.mk ((by rw [hg]; exact (below_size (by repeat (first | (with_reducible first | exact HB.out | apply below_alloc | apply pw_below_drewN | apply below_drew1 | refine below_set ?_ GE792.out | refine below_set ?_ GE793.out | refine below_set ?_ GE794.out) | exact HB.out))) : w.heap.size ≤ gb818)); have n9_ := Aside0.mk ((by rw [hg]; exact Nat.ne_of_lt (blk_lt (g := gb792) (o := .cells #[.int .i64 a0_0, .slice A0_1 l0_1.length c0_1] 24 (0, 0)) (by (with_reducible repeat (first | refine blk_drewN ?_ _ | refine blk_drew ?_ | refine blk_alloc ?_ _)); exact BK792.out)) : gb792 ≠ gb818)); have n10_ := Aside0.mk ((by rw [hg]; exact Nat.ne_of_gt (blk_lt (g := gb792) (o := .cells #[.int .i64 a0_0, .slice A0_1 l0_1.length c0_1] 24 (0, 0)) (by (with_reducible repeat (first | refine blk_drewN ?_ _ | refine blk_drew ?_ | refine blk_alloc ?_ _)); exact BK792.out)) : gb818 ≠ gb792)); have n11_ := Aside0.mk ((by rw [hg]; exact Nat.ne_of_lt (blk_lt (g := gb793) (o := .cells #[.int .i64 a1_0, .slice A1_1 l1_1.length c1_1, .bool a1_2] 27 (0, 0)) (by (with_reducible repeat (first | refine blk_drewN ?_ _ | refine blk_drew ?_ | refine blk_alloc ?_ _)); exact BK793.out)) : gb793 ≠ gb818)); have n12_ := Aside0.mk ((by rw [hg]; exact Nat.ne_of_gt (blk_lt (g := gb793) (o := .cells #[.int .i64 a1_0, .slice A1_1 l1_1.length c1_1, .bool a1_2] 27 (0, 0)) (by (with_reducible repeat (first | refine blk_drewN ?_ _ | refine blk_drew ?_ | refine blk_alloc ?_ _)); exact BK793.out)) : gb818 ≠ gb793)); have n13_ := Aside0.mk ((by rw [hg]; exact Nat.ne_of_lt (blk_lt (g := gb794) (o := .cells #[.int .i64 a2_0, .int .i64 a2_1, .int .i64 a2_2, .int .i64 a2_3, .int .i64 a2_4, .int .i64 a2_5, .int .i64 a2_6, .int .i64 a2_7] 31 (0, 0)) (by (with_reducible repeat (first | refine blk_drewN ?_ _ | refine blk_drew ?_ | refine blk_alloc ?_ _)); exact BK794.out)) : gb794 ≠ gb818)); have n14_ := Aside0.mk ((by rw [hg]; exact Nat.ne_of_gt (blk_lt (g := gb794) (o := .cells #[.int .i64 a2_0, .int .i64 a2_1, .int .i64 a2_2, .int .i64 a2_3, .int .i64 a2_4, .int .i64 a2_5, .int .i64 a2_6, .int .i64 a2_7] 31 (0, 0)) (by (with_reducible repeat (first | refine blk_drewN ?_ _ | refine blk_drew ?_ | refine blk_alloc ?_ _)); exact BK794.out)) : gb818 ≠ gb794)); clear HO810; clear HO815; clear BK792; clear BK793; clear BK794; clear HB; have HO810 := n0_; have HO815 := n1_; have BK792 := n2_; have BK793 := n3_; have BK794 := n4_; have HB := n5_; have BK818 := n6_; have GW818 := n7_; have GE818 := n8_; have NB792_818 := n9_; have NB818_792 := n10_; have NB793_818 := n11_; have NB818_793 := n12_; have NB794_818 := n13_; have NB818_794 := n14_; clear n0_ n1_ n2_ n3_ n4_ n5_ n6_ n7_ n8_ n9_ n10_ n11_ n12_ n13_ n14_; clear hb hbox hg; have hnb53 := NB818_792.out; have hnc53 := NB792_818.out; have hnb54 := NB818_793.out; have hnc54 := NB793_818.out; have hnb55 := NB818_794.out; have hnc55 := NB794_818.out; have hcz56_0 : w52.cell? ⟨gb818, 0, none⟩ = some (.int .i64 0) := (blk_cell BK818.out 0).trans rfl; have hcz56_1 : w52.cell? ⟨gb818, 1, none⟩ = some (.slice none 0 0) := (blk_cell BK818.out 1).trans rfl; have hcz56_2 : w52.cell? ⟨gb818, 2, none⟩ = some (.bool false) := (blk_cell BK818.out 2).trans rfl; have hfz56_0 := blk_frozen BK818.out 0; have hfz56_1 := blk_frozen BK818.out 1; have hfz56_2 := blk_frozen BK818.out 2; obtain ⟨Ao57, co57, eo57⟩ := Kd.R_slice HO815.out; subst eo57; have hnb58 := NB793_792.out; have hnc58 := NB792_793.out; have hnb59 := NB793_794.out; have hnc59 := NB794_793.out; have hcz60_0 : w52.cell? ⟨gb793, 0, none⟩ = some (.int .i64 a1_0) := (blk_cell BK793.out 0).trans rfl; have hcz60_1 : w52.cell? ⟨gb793, 1, none⟩ = some (.slice A1_1 l1_1.length c1_1) := (blk_cell BK793.out 1).trans rfl; have hcz60_2 : w52.cell? ⟨gb793, 2, none⟩ = some (.bool a1_2) := (blk_cell BK793.out 2).trans rfl; have hfz60_0 := blk_frozen BK793.out 0; have hfz60_1 := blk_frozen BK793.out 1; have hfz60_2 := blk_frozen BK793.out 2) | (go_at_call 33; (with_reducible refine (record_SameChunk.calls kj6 a1_0 _ _ l1_1 a1_2 t812 _ _ t813 t816 true _ ?side1 ?side2 ?side3 ?side4 A48.out).mono ?_); (case side1 => exact Kd.C_below HR1_1.out (by repeat (first | (with_reducible first | exact HB.out | apply below_alloc | apply pw_below_drewN | apply below_drew1 | refine below_set ?_ GE792.out | refine below_set ?_ GE793.out | refine below_set ?_ GE794.out | refine below_set ?_ GE818.out) | exact HB.out))); (case side2 => exact HC1_1.out); (case side3 => refine (Kd.R_reads' (e := 74) (base := w.heap.size) (ok := fun k_ => True) (n := t813.length) (c := co57) ?_).2.2; exact (by (with_reducible repeat (first | apply Kd.R_alloc | apply Kd.R_drewN | apply Kd.R_drew)); exact (Kd.R_mono (Kd.R_far (p := ⟨gb818, 2, none⟩) (Kd.R_far (p := ⟨gb818, 1, none⟩) (Kd.R_far (p := ⟨gb818, 0, none⟩) (Kd.R_types HO815.out BK818.out (by decide)) (fun _ hk => hk.2) (.int .i64 t812)) (fun _ hk => hk.2) (.slice Ao57 t813.length co57)) (fun _ hk => hk.2) (.bool t816)) (fun _ h_ => h_.1)))); (case side4 => exact (Kd.R_reads' HO815.out).2.1); rintro e w61 ⟨rfl, hb⟩; have n0_ := Aside0.mk (Kd.R_below (by (with_reducible repeat (first | apply Kd.R_alloc | apply Kd.R_drewN | apply Kd.R_drew)); exact (Kd.R_mono (Kd.R_far (p := ⟨gb818, 2, none⟩) (Kd.R_far (p := ⟨gb818, 1, none⟩) (Kd.R_far (p := ⟨gb818, 0, none⟩) (Kd.R_types HO810.out BK818.out (by decide)) (fun _ hk => hk.2) (.int .i64 t812)) (fun _ hk => hk.2) (.slice Ao57 t813.length co57)) (fun _ hk => hk.2) (.bool t816)) (fun _ h_ => h_.1))) hb); have n1_ := Aside0.mk (Kd.R_below (by (with_reducible repeat (first | apply Kd.R_alloc | apply Kd.R_drewN | apply Kd.R_drew)); exact (Kd.R_mono (Kd.R_far (p := ⟨gb818, 2, none⟩) (Kd.R_far (p := ⟨gb818, 1, none⟩) (Kd.R_far (p := ⟨gb818, 0, none⟩) (Kd.R_types HO815.out BK818.out (by decide)) (fun _ hk => hk.2) (.int .i64 t812)) (fun _ hk => hk.2) (.slice Ao57 t813.length co57)) (fun _ hk => hk.2) (.bool t816)) (fun _ h_ => h_.1))) hb); have n2_ := Aside0.mk (blk_below (g := gb792) (o := .cells #[.int .i64 a0_0, .slice A0_1 l0_1.length c0_1] 24 (0, 0)) (by (with_reducible repeat (first | refine blk_drewN ?_ _ | refine blk_drew ?_ | refine blk_alloc ?_ _)); refine blk_far ?_ NB792_818.out _; (with_reducible repeat (first | refine blk_drewN ?_ _ | refine blk_drew ?_ | refine blk_alloc ?_ _)); refine blk_far ?_ NB792_818.out _; (with_reducible repeat (first | refine blk_drewN ?_ _ | refine blk_drew ?_ | refine blk_alloc ?_ _)); refine blk_far ?_ NB792_818.out _; (with_reducible repeat (first | refine blk_drewN ?_ _ | refine blk_drew ?_ | refine blk_alloc ?_ _)); exact BK792.out) hb); have n3_ := Aside0.mk (blk_below (g := gb793) (o := .cells #[.int .i64 a1_0, .slice A1_1 l1_1.length c1_1, .bool a1_2] 27 (0, 0)) (by (with_reducible repeat (first | refine blk_drewN ?_ _ | refine blk_drew ?_ | refine blk_alloc ?_ _)); refine blk_far ?_ NB793_818.out _; (with_reducible repeat (first | refine blk_drewN ?_ _ | refine blk_drew ?_ | refine blk_alloc ?_ _)); refine blk_far ?_ NB793_818.out _; (with_reducible repeat (first | refine blk_drewN ?_ _ | refine blk_drew ?_ | refine blk_alloc ?_ _)); refine blk_far ?_ NB793_818.out _; (with_reducible repeat (first | refine blk_drewN ?_ _ | refine blk_drew ?_ | refine blk_alloc ?_ _)); exact BK793.out) hb); have n4_ := Aside0.mk (blk_below (g := gb794) (o := .cells #[.int .i64 a2_0, .int .i64 a2_1, .int .i64 a2_2, .int .i64 a2_3, .int .i64 a2_4, .int .i64 a2_5, .int .i64 a2_6, .int .i64 a2_7] 31 (0, 0)) (by (with_reducible repeat (first | refine blk_drewN ?_ _ | refine blk_drew ?_ | refine blk_alloc ?_ _)); refine blk_far ?_ NB794_818.out _; (with_reducible repeat (first | refine blk_drewN ?_ _ | refine blk_drew ?_ | refine blk_alloc ?_ _)); refine blk_far ?_ NB794_818.out _; (with_reducible repeat (first | refine blk_drewN ?_ _ | refine blk_drew ?_ | refine blk_alloc ?_ _)); refine blk_far ?_ NB794_818.out _; (with_reducible repeat (first | refine blk_drewN ?_ _ | refine blk_drew ?_ | refine blk_alloc ?_ _)); exact BK794.out) hb); have n5_ := Aside0.mk (blk_below (g := gb818) (o := .cells #[.int .i64 t812, .slice Ao57 t813.length co57, .bool t816] 27 (0, 0)) (by (with_reducible repeat (first | refine blk_drewN ?_ _ | refine blk_drew ?_ | refine blk_alloc ?_ _)); refine blk_put (cs := #[.int .i64 t812, .slice Ao57 t813.length co57, .bool false]) ?_ 2 _ rfl; (with_reducible repeat (first | refine blk_drewN ?_ _ | refine blk_drew ?_ | refine blk_alloc ?_ _)); refine blk_put (cs := #[.int .i64 t812, .slice none 0 0, .bool false]) ?_ 1 _ rfl; (with_reducible repeat (first | refine blk_drewN ?_ _ | refine blk_drew ?_ | refine blk_alloc ?_ _)); refine blk_put (cs := #[.int .i64 0, .slice none 0 0, .bool false]) ?_ 0 _ rfl; (with_reducible repeat (first | refine blk_drewN ?_ _ | refine blk_drew ?_ | refine blk_alloc ?_ _)); exact BK818.out) hb); have n6_ := Aside0.mk (below_step (by repeat (first | (with_reducible first | exact HB.out | apply below_alloc | apply pw_below_drewN | apply below_drew1 | refine below_set ?_ GE792.out | refine below_set ?_ GE793.out | refine below_set ?_ GE794.out | refine below_set ?_ GE818.out) | exact HB.out)) hb); clear HO810; clear HO815; clear BK792; clear BK793; clear BK794; clear BK818; clear HB; have HO810 := n0_; have HO815 := n1_; have BK792 := n2_; have BK793 := n3_; have BK794 := n4_; have BK818 := n5_; have HB := n6_; clear n0_ n1_ n2_ n3_ n4_ n5_ n6_; (try clear hb); (try clear hb2); (try clear hk); (try clear hi)))
        go_meet
        case rel => exact ⟨_, H', ⟨by have := HJ6.out; first | omega | exact Nat.le_refl _⟩, ⟨by (with_reducible repeat (first | refine blk_drewN ?_ _ | refine blk_drew ?_ | refine blk_alloc ?_ _)); exact BK792.out⟩, ⟨by (with_reducible repeat (first | refine blk_drewN ?_ _ | refine blk_drew ?_ | refine blk_alloc ?_ _)); exact BK793.out⟩, ⟨by (with_reducible repeat (first | refine blk_drewN ?_ _ | refine blk_drew ?_ | refine blk_alloc ?_ _)); exact BK794.out⟩, ⟨by repeat (first | (with_reducible first | exact HB.out | apply below_alloc | apply pw_below_drewN | apply below_drew1 | refine below_set ?_ GE792.out | refine below_set ?_ GE793.out | refine below_set ?_ GE794.out | refine below_set ?_ GE818.out) | exact HB.out)⟩⟩
       ·
        replace c49 := Bool.eq_false_iff.mpr c49
        subst c49
        have H1 : (some false) = some true := by rw [if_neg (show ¬ (false = true) by decide)] at H; first | done | exact H
        clear H
        have H := H1
        clear H1
        exact absurd H (by simp)
      ·
       rw [if_neg c47] at H
       have c47b0 : (t817 == 0) = false := beq_eq_false_iff_ne.mpr c47
       have c47b1 : (t817 != 0) = true := bne_iff_ne.mpr c47
       exact absurd H (by simp)
     ·
      rw [if_neg c45] at H
      have c45b0 : (t811 == 0) = false := beq_eq_false_iff_ne.mpr c45
      have c45b1 : (t811 != 0) = true := bne_iff_ne.mpr c45
      (first | rw [c45b0] | (simp only [i64_w, i32_w]; rw [c45b0]) | skip)
      replace H := Option.bind_eq_some_iff.mp H
      obtain ⟨t820, A620, H⟩ := H
      replace H : (if t811 = t820 then (cressetlaw03_RecordBack.j1 kj6 a2_0 a2_1 a2_2 a2_3 a2_4 a2_5 a2_6 a2_7) else (some false)) = some true := H
      have A62 := Aside0.mk A620
      clear A620
      by_cases c63 : t811 = t820
      ·
       rw [if_pos c63] at H
       have c63b0 : (t811 == t820) = true := beq_iff_eq.mpr c63
       have c63b1 : (t811 != t820) = false := bne_eq_false_iff_eq.mpr c63
       clear c63
       have H' := Aside0.mk H
       clear H
       have hnb64 := NB793_792.out
       have hnc64 := NB792_793.out
       have hnb65 := NB793_794.out
       have hnc65 := NB794_793.out
       have hcz66_0 : w44.cell? ⟨gb793, 0, none⟩ = some (.int .i64 a1_0) := (blk_cell BK793.out 0).trans rfl
       have hcz66_1 : w44.cell? ⟨gb793, 1, none⟩ = some (.slice A1_1 l1_1.length c1_1) := (blk_cell BK793.out 1).trans rfl
       have hcz66_2 : w44.cell? ⟨gb793, 2, none⟩ = some (.bool a1_2) := (blk_cell BK793.out 2).trans rfl
       have hfz66_0 := blk_frozen BK793.out 0
       have hfz66_1 := blk_frozen BK793.out 1
       have hfz66_2 := blk_frozen BK793.out 2
       go_wp2_with (first | ((with_reducible refine gate_callee (f := 21) rfl ?_); refine goesL_ (some 67) rfl rfl Try.func21 (by kernel_rfl) rfl #[.agg #[.int .i64 a1_0, .slice A1_1 l1_1.length c1_1, .bool a1_2]] rfl (by (try simp only [List.map_toArray, List.map_cons, List.map_nil]); first | done | rfl | (simp only [List.length_drop, List.length_take]; rfl)) ?_; (with_reducible refine (cressetref03_CheckChunk.calls kj6 a1_0 _ _ l1_1 a1_2 t820 _ ?side1 ?side2 A62.out).mono ?_); (case side1 => repeat (first | exact (Kd.C_below HR1_1.out HB.out) | (with_reducible refine Kd.C_alloc ?_ _) | (with_reducible refine Kd.C_drewN ?_ _) | (with_reducible refine Kd.C_drew ?_))); (case side2 => exact HC1_1.out); rintro e w67 ⟨rfl, hb⟩; refine ⟨_, rfl, ?_⟩; have n0_ := Aside0.mk (Kd.R_below (by (with_reducible repeat (first | apply Kd.R_alloc | apply Kd.R_drewN | apply Kd.R_drew)); exact HO810.out) hb); have n1_ := Aside0.mk (blk_below (g := gb792) (o := .cells #[.int .i64 a0_0, .slice A0_1 l0_1.length c0_1] 24 (0, 0)) (by (with_reducible repeat (first | refine blk_drewN ?_ _ | refine blk_drew ?_ | refine blk_alloc ?_ _)); exact BK792.out) hb); have n2_ := Aside0.mk (blk_below (g := gb793) (o := .cells #[.int .i64 a1_0, .slice A1_1 l1_1.length c1_1, .bool a1_2] 27 (0, 0)) (by (with_reducible repeat (first | refine blk_drewN ?_ _ | refine blk_drew ?_ | refine blk_alloc ?_ _)); exact BK793.out) hb); have n3_ := Aside0.mk (blk_below (g := gb794) (o := .cells #[.int .i64 a2_0, .int .i64 a2_1, .int .i64 a2_2, .int .i64 a2_3, .int .i64 a2_4, .int .i64 a2_5, .int .i64 a2_6, .int .i64 a2_7] 31 (0, 0)) (by (with_reducible repeat (first | refine blk_drewN ?_ _ | refine blk_drew ?_ | refine blk_alloc ?_ _)); exact BK794.out) hb); have n4_ := Aside0.mk (below_step (by repeat (first | (with_reducible first | exact HB.out | apply below_alloc | apply pw_below_drewN | apply below_drew1 | refine below_set ?_ GE792.out | refine below_set ?_ GE793.out | refine below_set ?_ GE794.out) | exact HB.out)) hb); clear HO810; clear BK792; clear BK793; clear BK794; clear HB; have HO810 := n0_; have BK792 := n1_; have BK793 := n2_; have BK794 := n3_; have HB := n4_; clear n0_ n1_ n2_ n3_ n4_; (try clear hb); (try clear hb2); (try clear hk); (try clear hi)))
       go_meet
       case rel => exact ⟨_, H', ⟨by have := HJ6.out; first | omega | exact Nat.le_refl _⟩, ⟨by (with_reducible repeat (first | refine blk_drewN ?_ _ | refine blk_drew ?_ | refine blk_alloc ?_ _)); exact BK792.out⟩, ⟨by (with_reducible repeat (first | refine blk_drewN ?_ _ | refine blk_drew ?_ | refine blk_alloc ?_ _)); exact BK793.out⟩, ⟨by (with_reducible repeat (first | refine blk_drewN ?_ _ | refine blk_drew ?_ | refine blk_alloc ?_ _)); exact BK794.out⟩, ⟨by repeat (first | (with_reducible first | exact HB.out | apply below_alloc | apply pw_below_drewN | apply below_drew1 | refine below_set ?_ GE792.out | refine below_set ?_ GE793.out | refine below_set ?_ GE794.out) | exact HB.out)⟩⟩
      ·
       rw [if_neg c63] at H
       have c63b0 : (t811 == t820) = false := beq_eq_false_iff_ne.mpr c63
       have c63b1 : (t811 != t820) = true := bne_iff_ne.mpr c63
       exact absurd H (by simp)
    case rest =>
     clear HC40
     try clear c1
     try clear c2
     try clear p2
     try clear c3
     try clear c4
     try clear c5
     try clear c6
     try clear c9
     try clear c12
     try clear c13
     try clear c16
     try clear c16b0
     try clear c16b1
     try clear c17
     try clear c18
     try clear c18b0
     try clear c18b1
     try clear c19
     try clear c20
     try clear c21
     try clear c24
     try clear c25
     try clear c26
     try clear c29
     try clear c30
     try clear c31
     try clear c34
     try clear c34b0
     try clear c34b1
     try clear c35
     try clear c36
     try clear c38
     try clear c41
     try clear c42
     try clear c45
     try clear c45b0
     try clear c45b1
     try clear c47
     try clear c47b0
     try clear c47b1
     try clear c49
     try clear c53
     try clear c54
     try clear c55
     try clear c58
     try clear c59
     try clear c63
     try clear c63b0
     try clear c63b1
     try clear c64
     try clear c65
     try clear hcz14_0
     try clear hcz14_1
     try clear hcz27_0
     try clear hcz27_1
     try clear hcz31_0
     try clear hcz31_1
     try clear hcz37_0
     try clear hcz37_1
     try clear hcz43_0
     try clear hcz43_1
     try clear hcz43_2
     try clear hcz56_0
     try clear hcz56_1
     try clear hcz56_2
     try clear hcz60_0
     try clear hcz60_1
     try clear hcz60_2
     try clear hcz66_0
     try clear hcz66_1
     try clear hcz66_2
     try clear hfz14_0
     try clear hfz14_1
     try clear hfz27_0
     try clear hfz27_1
     try clear hfz31_0
     try clear hfz31_1
     try clear hfz37_0
     try clear hfz37_1
     try clear hfz43_0
     try clear hfz43_1
     try clear hfz43_2
     try clear hfz56_0
     try clear hfz56_1
     try clear hfz56_2
     try clear hfz60_0
     try clear hfz60_1
     try clear hfz60_2
     try clear hfz66_0
     try clear hfz66_1
     try clear hfz66_2
     try clear p2
     obtain ⟨kq, HA, HJ39, BK792, BK793, BK794, HB⟩ := hcut
     cases kq with
     | zero => exact absurd HA.out (by simp [cressetlaw03_RecordBack.j1])
     | succ kj39 =>
      have H := HA.out
      clear HA
      simp only [cressetlaw03_RecordBack.j1] at H
      replace H := Option.bind_eq_some_iff.mp H
      obtain ⟨⟨t821, t824⟩, A680, H⟩ := H
      replace H : (if t824 = 0 then ((record_TakeMaster.f kj39 t821).bind fun bt825 => (if bt825.2.2.2.2.2.2.2.2 = 0 then (some (bt825.1 == a2_0 && (bt825.2.1 == a2_1 && (bt825.2.2.1 == a2_2 && (bt825.2.2.2.1 == a2_3 && ((bt825.2.2.2.2.1 == a2_4 && (bt825.2.2.2.2.2.1 == a2_5 && (bt825.2.2.2.2.2.2.1 == a2_6 && (bt825.2.2.2.2.2.2.2.1 == a2_7)))))))))) else (some false))) else ((cressetref03_CheckMaster.f kj39 a2_0 a2_1 a2_2 a2_3 a2_4 a2_5 a2_6 a2_7).bind fun t835 => (some (t824 == t835)))) = some true := H
      have A68 := Aside0.mk A680
      clear A680
      by_cases c69 : t824 = 0
      ·
       rw [if_pos c69] at H
       have c69b0 : (t824 == 0) = true := beq_iff_eq.mpr c69
       have c69b1 : (t824 != 0) = false := bne_eq_false_iff_eq.mpr c69
       clear c69
       replace H := Option.bind_eq_some_iff.mp H
       obtain ⟨⟨t825, t826, t827, t828, t829, t830, t831, t832, t833⟩, A700, H⟩ := H
       replace H : (if t833 = 0 then (some (t825 == a2_0 && (t826 == a2_1 && (t827 == a2_2 && (t828 == a2_3 && ((t829 == a2_4 && (t830 == a2_5 && (t831 == a2_6 && (t832 == a2_7)))))))))) else (some false)) = some true := H
       have A70 := Aside0.mk A700
       clear A700
       by_cases c71 : t833 = 0
       ·
        rw [if_pos c71] at H
        have c71b0 : (t833 == 0) = true := beq_iff_eq.mpr c71
        have c71b1 : (t833 != 0) = false := bne_eq_false_iff_eq.mpr c71
        clear c71
        have HRT := Aside0.mk (Option.some.inj H)
        clear H
        have hnb72 := NB794_792.out
        have hnc72 := NB792_794.out
        have hnb73 := NB794_793.out
        have hnc73 := NB793_794.out
        have hcz74_0 : wc.cell? ⟨gb794, 0, none⟩ = some (.int .i64 a2_0) := (blk_cell BK794.out 0).trans rfl
        have hcz74_1 : wc.cell? ⟨gb794, 1, none⟩ = some (.int .i64 a2_1) := (blk_cell BK794.out 1).trans rfl
        have hcz74_2 : wc.cell? ⟨gb794, 2, none⟩ = some (.int .i64 a2_2) := (blk_cell BK794.out 2).trans rfl
        have hcz74_3 : wc.cell? ⟨gb794, 3, none⟩ = some (.int .i64 a2_3) := (blk_cell BK794.out 3).trans rfl
        have hcz74_4 : wc.cell? ⟨gb794, 4, none⟩ = some (.int .i64 a2_4) := (blk_cell BK794.out 4).trans rfl
        have hcz74_5 : wc.cell? ⟨gb794, 5, none⟩ = some (.int .i64 a2_5) := (blk_cell BK794.out 5).trans rfl
        have hcz74_6 : wc.cell? ⟨gb794, 6, none⟩ = some (.int .i64 a2_6) := (blk_cell BK794.out 6).trans rfl
        have hcz74_7 : wc.cell? ⟨gb794, 7, none⟩ = some (.int .i64 a2_7) := (blk_cell BK794.out 7).trans rfl
        have hfz74_0 := blk_frozen BK794.out 0
        have hfz74_1 := blk_frozen BK794.out 1
        have hfz74_2 := blk_frozen BK794.out 2
        have hfz74_3 := blk_frozen BK794.out 3
        have hfz74_4 := blk_frozen BK794.out 4
        have hfz74_5 := blk_frozen BK794.out 5
        have hfz74_6 := blk_frozen BK794.out 6
        have hfz74_7 := blk_frozen BK794.out 7
        go_wp2_with (first | ((with_reducible refine gate_callee (f := 28) rfl ?_); refine goesL_ (some 71) rfl rfl Try.func28 (by kernel_rfl) rfl #[.agg #[.int .i64 a2_0, .int .i64 a2_1, .int .i64 a2_2, .int .i64 a2_3, .int .i64 a2_4, .int .i64 a2_5, .int .i64 a2_6, .int .i64 a2_7]] rfl (by (try simp only [List.map_toArray, List.map_cons, List.map_nil]); first | done | rfl | (simp only [List.length_drop, List.length_take]; rfl)) ?_; (with_reducible refine (record_Master.calls kj39 a2_0 a2_1 a2_2 a2_3 a2_4 a2_5 a2_6 a2_7 t821 t824 _ A68.out).mono ?_); rintro e w75 ⟨v822, rfl, ho0, hb⟩; refine ⟨_, rfl, ?_⟩; have n0_ := Aside0.mk (Kd.R_lower ho0 (below_size (by repeat (first | (with_reducible first | exact HB.out | apply below_alloc | apply pw_below_drewN | apply below_drew1 | refine below_set ?_ GE792.out | refine below_set ?_ GE793.out | refine below_set ?_ GE794.out) | exact HB.out)))); have n1_ := Aside0.mk (blk_below (g := gb792) (o := .cells #[.int .i64 a0_0, .slice A0_1 l0_1.length c0_1] 24 (0, 0)) (by (with_reducible repeat (first | refine blk_drewN ?_ _ | refine blk_drew ?_ | refine blk_alloc ?_ _)); exact BK792.out) hb); have n2_ := Aside0.mk (blk_below (g := gb793) (o := .cells #[.int .i64 a1_0, .slice A1_1 l1_1.length c1_1, .bool a1_2] 27 (0, 0)) (by (with_reducible repeat (first | refine blk_drewN ?_ _ | refine blk_drew ?_ | refine blk_alloc ?_ _)); exact BK793.out) hb); have n3_ := Aside0.mk (blk_below (g := gb794) (o := .cells #[.int .i64 a2_0, .int .i64 a2_1, .int .i64 a2_2, .int .i64 a2_3, .int .i64 a2_4, .int .i64 a2_5, .int .i64 a2_6, .int .i64 a2_7] 31 (0, 0)) (by (with_reducible repeat (first | refine blk_drewN ?_ _ | refine blk_drew ?_ | refine blk_alloc ?_ _)); exact BK794.out) hb); have n4_ := Aside0.mk (below_step (by repeat (first | (with_reducible first | exact HB.out | apply below_alloc | apply pw_below_drewN | apply below_drew1 | refine below_set ?_ GE792.out | refine below_set ?_ GE793.out | refine below_set ?_ GE794.out) | exact HB.out)) hb); clear BK792; clear BK793; clear BK794; clear HB; have HO823 := n0_; have BK792 := n1_; have BK793 := n2_; have BK794 := n3_; have HB := n4_; clear n0_ n1_ n2_ n3_ n4_; (try clear hb); (try clear hb2); (try clear hk); (try clear hi); (try clear ho0); obtain ⟨Ao76, co76, eo76⟩ := Kd.R_slice HO823.out; subst eo76) | ((with_reducible refine gate_callee (f := 40) rfl ?_); refine goesL_ (some 82) rfl rfl Try.func40 (by kernel_rfl) rfl #[.slice Ao76 t821.length co76] rfl (by (try simp only [List.map_toArray, List.map_cons, List.map_nil]); first | done | rfl | (simp only [List.length_drop, List.length_take]; rfl)) ?_; (with_reducible refine (record_TakeMaster.calls kj39 _ _ t821 t825 t826 t827 t828 t829 t830 t831 t832 t833 _ ?side1 ?side2 A70.out).mono ?_); (case side1 => repeat (first | exact (Kd.R_reads' HO823.out).2.2 | (with_reducible refine Kd.C_alloc ?_ _) | (with_reducible refine Kd.C_drewN ?_ _) | (with_reducible refine Kd.C_drew ?_))); (case side2 => exact (Kd.R_reads' HO823.out).2.1); rintro e w77 ⟨rfl, hb⟩; refine ⟨_, rfl, ?_⟩; have n0_ := Aside0.mk (Kd.R_below (by (with_reducible repeat (first | apply Kd.R_alloc | apply Kd.R_drewN | apply Kd.R_drew)); exact HO823.out) hb); have n1_ := Aside0.mk (blk_below (g := gb792) (o := .cells #[.int .i64 a0_0, .slice A0_1 l0_1.length c0_1] 24 (0, 0)) (by (with_reducible repeat (first | refine blk_drewN ?_ _ | refine blk_drew ?_ | refine blk_alloc ?_ _)); exact BK792.out) hb); have n2_ := Aside0.mk (blk_below (g := gb793) (o := .cells #[.int .i64 a1_0, .slice A1_1 l1_1.length c1_1, .bool a1_2] 27 (0, 0)) (by (with_reducible repeat (first | refine blk_drewN ?_ _ | refine blk_drew ?_ | refine blk_alloc ?_ _)); exact BK793.out) hb); have n3_ := Aside0.mk (blk_below (g := gb794) (o := .cells #[.int .i64 a2_0, .int .i64 a2_1, .int .i64 a2_2, .int .i64 a2_3, .int .i64 a2_4, .int .i64 a2_5, .int .i64 a2_6, .int .i64 a2_7] 31 (0, 0)) (by (with_reducible repeat (first | refine blk_drewN ?_ _ | refine blk_drew ?_ | refine blk_alloc ?_ _)); exact BK794.out) hb); have n4_ := Aside0.mk (below_step (by repeat (first | (with_reducible first | exact HB.out | apply below_alloc | apply pw_below_drewN | apply below_drew1 | refine below_set ?_ GE792.out | refine below_set ?_ GE793.out | refine below_set ?_ GE794.out) | exact HB.out)) hb); clear HO823; clear BK792; clear BK793; clear BK794; clear HB; have HO823 := n0_; have BK792 := n1_; have BK793 := n2_; have BK794 := n3_; have HB := n4_; clear n0_ n1_ n2_ n3_ n4_; (try clear hb); (try clear hb2); (try clear hk); (try clear hi)) | ((with_reducible refine gate_dst (N := 17) rfl ?_); refine box_event ?hg (N := 17) ?hd (cs := #[.int .i64 0, .int .i64 0, .int .i64 0, .int .i64 0, .int .i64 0, .int .i64 0, .int .i64 0, .int .i64 0]) (t := 31) ?hr ?_; (case hd => rfl); (case hg => rfl); (case hr => first | (go_simp; done) | (go_simp; rfl)); intro gb834 hg w78 hbox hb; have n0_ := Aside0.mk (Kd.R_below (by (with_reducible repeat (first | apply Kd.R_alloc | apply Kd.R_drewN | apply Kd.R_drew)); exact HO823.out) hb); have n1_ := Aside0.mk (blk_below (g := gb792) (o := .cells #[.int .i64 a0_0, .slice A0_1 l0_1.length c0_1] 24 (0, 0)) (by (with_reducible repeat (first | refine blk_drewN ?_ _ | refine blk_drew ?_ | refine blk_alloc ?_ _)); exact BK792.out) hb); have n2_ := Aside0.mk (blk_below (g := gb793) (o := .cells #[.int .i64 a1_0, .slice A1_1 l1_1.length c1_1, .bool a1_2] 27 (0, 0)) (by (with_reducible repeat (first | refine blk_drewN ?_ _ | refine blk_drew ?_ | refine blk_alloc ?_ _)); exact BK793.out) hb); have n3_ := Aside0.mk (blk_below (g := gb794) (o := .cells #[.int .i64 a2_0, .int .i64 a2_1, .int .i64 a2_2, .int .i64 a2_3, .int .i64 a2_4, .int .i64 a2_5, .int .i64 a2_6, .int .i64 a2_7] 31 (0, 0)) (by (with_reducible repeat (first | refine blk_drewN ?_ _ | refine blk_drew ?_ | refine blk_alloc ?_ _)); exact BK794.out) hb); have n4_ := Aside0.mk (below_step (by repeat (first | (with_reducible first | exact HB.out | apply below_alloc | apply pw_below_drewN | apply below_drew1 | refine below_set ?_ GE792.out | refine below_set ?_ GE793.out | refine below_set ?_ GE794.out) | exact HB.out)) hb); have n5_ := Aside0.mk (hbox); have n6_ := Aside0.mk ((by rw [hg]; exact (below_size (by repeat (first | (with_reducible first | exact HB.out | apply below_alloc | apply pw_below_drewN | apply below_drew1 | refine below_set ?_ GE792.out | refine below_set ?_ GE793.out | refine below_set ?_ GE794.out) | exact HB.out))) : w.heap.size ≤ gb834)); have n7_ := Aside0.mk ((by rw [hg]; exact (below_size (by repeat (first | (with_reducible first | exact HB.out | apply below_alloc | apply pw_below_drewN | apply below_drew1 | refine below_set ?_ GE792.out | refine below_set ?_ GE793.out | refine below_set ?_ GE794.out) | exact HB.out))) : w.heap.size ≤ gb834)); have n8_ := Aside0.mk ((by rw [hg]; exact Nat.ne_of_lt (blk_lt (g := gb792) (o := .cells #[.int .i64 a0_0, .slice A0_1 l0_1.length c0_1] 24 (0, 0)) (by (with_reducible repeat (first | refine blk_drewN ?_ _ | refine blk_drew ?_ | refine blk_alloc ?_ _)); exact BK792.out)) : gb792 ≠ gb834)); have n9_ := Aside0.mk ((by rw [hg]; exact Nat.ne_of_gt (blk_lt (g := gb792) (o := .cells #[.int .i64 a0_0, .slice A0_1 l0_1.length c0_1] 24 (0, 0)) (by (with_reducible repeat (first | refine blk_drewN ?_ _ | refine blk_drew ?_ | refine blk_alloc ?_ _)); exact BK792.out)) : gb834 ≠ gb792)); have n10_ := Aside0.mk ((by rw [hg]; exact Nat.ne_of_lt (blk_lt (g := gb793) (o := .cells #[.int .i64 a1_0, .slice A1_1 l1_1.length c1_1, .bool a1_2] 27 (0, 0)) (by (with_reducible repeat (first | refine blk_drewN ?_ _ | refine blk_drew ?_ | refine blk_alloc ?_ _)); exact BK793.out)) : gb793 ≠ gb834)); have n11_ := Aside0.mk ((by rw [hg]; exact Nat.ne_of_gt (blk_lt (g := gb793) (o := .cells #[.int .i64 a1_0, .slice A1_1 l1_1.length c1_1, .bool a1_2] 27 (0, 0)) (by (with_reducible repeat (first | refine blk_drewN ?_ _ | refine blk_drew ?_ | refine blk_alloc ?_ _)); exact BK793.out)) : gb834 ≠ gb793)); have n12_ := Aside0.mk ((by rw [hg]; exact Nat.ne_of_lt (blk_lt (g := gb794) (o := .cells #[.int .i64 a2_0, .int .i64 a2_1, .int .i64 a2_2, .int .i64 a2_3, .int .i64 a2_4, .int .i64 a2_5, .int .i64 a2_6, .int .i64 a2_7] 31 (0, 0)) (by (with_reducible repeat (first | refine blk_drewN ?_ _ | refine blk_drew ?_ | refine blk_alloc ?_ _)); exact BK794.out)) : gb794 ≠ gb834)); have n13_ := Aside0.mk ((by rw [hg]; exact Nat.ne_of_gt (blk_lt (g := gb794) (o := .cells #[.int .i64 a2_0, .int .i64 a2_1, .int .i64 a2_2, .int .i64 a2_3, .int .i64 a2_4, .int .i64 a2_5, .int .i64 a2_6, .int .i64 a2_7] 31 (0, 0)) (by (with_reducible repeat (first | refine blk_drewN ?_ _ | refine blk_drew ?_ | refine blk_alloc ?_ _)); exact BK794.out)) : gb834 ≠ gb794)); clear HO823; clear BK792; clear BK793; clear BK794; clear HB; have HO823 := n0_; have BK792 := n1_; have BK793 := n2_; have BK794 := n3_; have HB := n4_; have BK834 := n5_; have GW834 := n6_; have GE834 := n7_; have NB792_834 := n8_; have NB834_792 := n9_; have NB793_834 := n10_; have NB834_793 := n11_; have NB794_834 := n12_; have NB834_794 := n13_; clear n0_ n1_ n2_ n3_ n4_ n5_ n6_ n7_ n8_ n9_ n10_ n11_ n12_ n13_; clear hb hbox hg; have hnb79 := NB834_792.out; have hnc79 := NB792_834.out; have hnb80 := NB834_793.out; have hnc80 := NB793_834.out; have hnb81 := NB834_794.out; have hnc81 := NB794_834.out; have hcz82_0 : w78.cell? ⟨gb834, 0, none⟩ = some (.int .i64 0) := (blk_cell BK834.out 0).trans rfl; have hcz82_1 : w78.cell? ⟨gb834, 1, none⟩ = some (.int .i64 0) := (blk_cell BK834.out 1).trans rfl; have hcz82_2 : w78.cell? ⟨gb834, 2, none⟩ = some (.int .i64 0) := (blk_cell BK834.out 2).trans rfl; have hcz82_3 : w78.cell? ⟨gb834, 3, none⟩ = some (.int .i64 0) := (blk_cell BK834.out 3).trans rfl; have hcz82_4 : w78.cell? ⟨gb834, 4, none⟩ = some (.int .i64 0) := (blk_cell BK834.out 4).trans rfl; have hcz82_5 : w78.cell? ⟨gb834, 5, none⟩ = some (.int .i64 0) := (blk_cell BK834.out 5).trans rfl; have hcz82_6 : w78.cell? ⟨gb834, 6, none⟩ = some (.int .i64 0) := (blk_cell BK834.out 6).trans rfl; have hcz82_7 : w78.cell? ⟨gb834, 7, none⟩ = some (.int .i64 0) := (blk_cell BK834.out 7).trans rfl; have hfz82_0 := blk_frozen BK834.out 0; have hfz82_1 := blk_frozen BK834.out 1; have hfz82_2 := blk_frozen BK834.out 2; have hfz82_3 := blk_frozen BK834.out 3; have hfz82_4 := blk_frozen BK834.out 4; have hfz82_5 := blk_frozen BK834.out 5; have hfz82_6 := blk_frozen BK834.out 6; have hfz82_7 := blk_frozen BK834.out 7; have hcz83_0 : w78.cell? ⟨gb794, 0, none⟩ = some (.int .i64 a2_0) := (blk_cell BK794.out 0).trans rfl; have hcz83_1 : w78.cell? ⟨gb794, 1, none⟩ = some (.int .i64 a2_1) := (blk_cell BK794.out 1).trans rfl; have hcz83_2 : w78.cell? ⟨gb794, 2, none⟩ = some (.int .i64 a2_2) := (blk_cell BK794.out 2).trans rfl; have hcz83_3 : w78.cell? ⟨gb794, 3, none⟩ = some (.int .i64 a2_3) := (blk_cell BK794.out 3).trans rfl; have hcz83_4 : w78.cell? ⟨gb794, 4, none⟩ = some (.int .i64 a2_4) := (blk_cell BK794.out 4).trans rfl; have hcz83_5 : w78.cell? ⟨gb794, 5, none⟩ = some (.int .i64 a2_5) := (blk_cell BK794.out 5).trans rfl; have hcz83_6 : w78.cell? ⟨gb794, 6, none⟩ = some (.int .i64 a2_6) := (blk_cell BK794.out 6).trans rfl; have hcz83_7 : w78.cell? ⟨gb794, 7, none⟩ = some (.int .i64 a2_7) := (blk_cell BK794.out 7).trans rfl; have hfz83_0 := blk_frozen BK794.out 0; have hfz83_1 := blk_frozen BK794.out 1; have hfz83_2 := blk_frozen BK794.out 2; have hfz83_3 := blk_frozen BK794.out 3; have hfz83_4 := blk_frozen BK794.out 4; have hfz83_5 := blk_frozen BK794.out 5; have hfz83_6 := blk_frozen BK794.out 6; have hfz83_7 := blk_frozen BK794.out 7))
        go_ret
        exact ⟨by first | exact congrArg (fun b_ => Ending.returned (.bool b_)) HRT.out | exact congrArg (fun b_ => Ending.returned (.bool b_)) (by simpa using HRT.out) | rfl | (simp [errW_none, errW_some] <;> rfl) | (simp [*, errW_none, errW_some] <;> rfl), by repeat (first | (with_reducible first | exact HB.out | apply below_alloc | apply pw_below_drewN | apply below_drew1 | refine below_set ?_ GE792.out | refine below_set ?_ GE793.out | refine below_set ?_ GE794.out | refine below_set ?_ GE834.out) | exact HB.out)⟩
       ·
        rw [if_neg c71] at H
        have c71b0 : (t833 == 0) = false := beq_eq_false_iff_ne.mpr c71
        have c71b1 : (t833 != 0) = true := bne_iff_ne.mpr c71
        exact absurd H (by simp)
      ·
       rw [if_neg c69] at H
       have c69b0 : (t824 == 0) = false := beq_eq_false_iff_ne.mpr c69
       have c69b1 : (t824 != 0) = true := bne_iff_ne.mpr c69
       replace H := Option.bind_eq_some_iff.mp H
       obtain ⟨t835, A840, H⟩ := H
       replace H : (some (t824 == t835)) = some true := H
       have A84 := Aside0.mk A840
       clear A840
       have HRT := Aside0.mk (Option.some.inj H)
       clear H
       have hnb85 := NB794_792.out
       have hnc85 := NB792_794.out
       have hnb86 := NB794_793.out
       have hnc86 := NB793_794.out
       have hcz87_0 : wc.cell? ⟨gb794, 0, none⟩ = some (.int .i64 a2_0) := (blk_cell BK794.out 0).trans rfl
       have hcz87_1 : wc.cell? ⟨gb794, 1, none⟩ = some (.int .i64 a2_1) := (blk_cell BK794.out 1).trans rfl
       have hcz87_2 : wc.cell? ⟨gb794, 2, none⟩ = some (.int .i64 a2_2) := (blk_cell BK794.out 2).trans rfl
       have hcz87_3 : wc.cell? ⟨gb794, 3, none⟩ = some (.int .i64 a2_3) := (blk_cell BK794.out 3).trans rfl
       have hcz87_4 : wc.cell? ⟨gb794, 4, none⟩ = some (.int .i64 a2_4) := (blk_cell BK794.out 4).trans rfl
       have hcz87_5 : wc.cell? ⟨gb794, 5, none⟩ = some (.int .i64 a2_5) := (blk_cell BK794.out 5).trans rfl
       have hcz87_6 : wc.cell? ⟨gb794, 6, none⟩ = some (.int .i64 a2_6) := (blk_cell BK794.out 6).trans rfl
       have hcz87_7 : wc.cell? ⟨gb794, 7, none⟩ = some (.int .i64 a2_7) := (blk_cell BK794.out 7).trans rfl
       have hfz87_0 := blk_frozen BK794.out 0
       have hfz87_1 := blk_frozen BK794.out 1
       have hfz87_2 := blk_frozen BK794.out 2
       have hfz87_3 := blk_frozen BK794.out 3
       have hfz87_4 := blk_frozen BK794.out 4
       have hfz87_5 := blk_frozen BK794.out 5
       have hfz87_6 := blk_frozen BK794.out 6
       have hfz87_7 := blk_frozen BK794.out 7
       go_wp2_with (first | ((with_reducible refine gate_callee (f := 28) rfl ?_); refine goesL_ (some 71) rfl rfl Try.func28 (by kernel_rfl) rfl #[.agg #[.int .i64 a2_0, .int .i64 a2_1, .int .i64 a2_2, .int .i64 a2_3, .int .i64 a2_4, .int .i64 a2_5, .int .i64 a2_6, .int .i64 a2_7]] rfl (by (try simp only [List.map_toArray, List.map_cons, List.map_nil]); first | done | rfl | (simp only [List.length_drop, List.length_take]; rfl)) ?_; (with_reducible refine (record_Master.calls kj39 a2_0 a2_1 a2_2 a2_3 a2_4 a2_5 a2_6 a2_7 t821 t824 _ A68.out).mono ?_); rintro e w88 ⟨v822, rfl, ho0, hb⟩; refine ⟨_, rfl, ?_⟩; have n0_ := Aside0.mk (Kd.R_lower ho0 (below_size (by repeat (first | (with_reducible first | exact HB.out | apply below_alloc | apply pw_below_drewN | apply below_drew1 | refine below_set ?_ GE792.out | refine below_set ?_ GE793.out | refine below_set ?_ GE794.out) | exact HB.out)))); have n1_ := Aside0.mk (blk_below (g := gb792) (o := .cells #[.int .i64 a0_0, .slice A0_1 l0_1.length c0_1] 24 (0, 0)) (by (with_reducible repeat (first | refine blk_drewN ?_ _ | refine blk_drew ?_ | refine blk_alloc ?_ _)); exact BK792.out) hb); have n2_ := Aside0.mk (blk_below (g := gb793) (o := .cells #[.int .i64 a1_0, .slice A1_1 l1_1.length c1_1, .bool a1_2] 27 (0, 0)) (by (with_reducible repeat (first | refine blk_drewN ?_ _ | refine blk_drew ?_ | refine blk_alloc ?_ _)); exact BK793.out) hb); have n3_ := Aside0.mk (blk_below (g := gb794) (o := .cells #[.int .i64 a2_0, .int .i64 a2_1, .int .i64 a2_2, .int .i64 a2_3, .int .i64 a2_4, .int .i64 a2_5, .int .i64 a2_6, .int .i64 a2_7] 31 (0, 0)) (by (with_reducible repeat (first | refine blk_drewN ?_ _ | refine blk_drew ?_ | refine blk_alloc ?_ _)); exact BK794.out) hb); have n4_ := Aside0.mk (below_step (by repeat (first | (with_reducible first | exact HB.out | apply below_alloc | apply pw_below_drewN | apply below_drew1 | refine below_set ?_ GE792.out | refine below_set ?_ GE793.out | refine below_set ?_ GE794.out) | exact HB.out)) hb); clear BK792; clear BK793; clear BK794; clear HB; have HO823 := n0_; have BK792 := n1_; have BK793 := n2_; have BK794 := n3_; have HB := n4_; clear n0_ n1_ n2_ n3_ n4_; (try clear hb); (try clear hb2); (try clear hk); (try clear hi); (try clear ho0); have hcz89_0 : w88.cell? ⟨gb794, 0, none⟩ = some (.int .i64 a2_0) := (blk_cell BK794.out 0).trans rfl; have hcz89_1 : w88.cell? ⟨gb794, 1, none⟩ = some (.int .i64 a2_1) := (blk_cell BK794.out 1).trans rfl; have hcz89_2 : w88.cell? ⟨gb794, 2, none⟩ = some (.int .i64 a2_2) := (blk_cell BK794.out 2).trans rfl; have hcz89_3 : w88.cell? ⟨gb794, 3, none⟩ = some (.int .i64 a2_3) := (blk_cell BK794.out 3).trans rfl; have hcz89_4 : w88.cell? ⟨gb794, 4, none⟩ = some (.int .i64 a2_4) := (blk_cell BK794.out 4).trans rfl; have hcz89_5 : w88.cell? ⟨gb794, 5, none⟩ = some (.int .i64 a2_5) := (blk_cell BK794.out 5).trans rfl; have hcz89_6 : w88.cell? ⟨gb794, 6, none⟩ = some (.int .i64 a2_6) := (blk_cell BK794.out 6).trans rfl; have hcz89_7 : w88.cell? ⟨gb794, 7, none⟩ = some (.int .i64 a2_7) := (blk_cell BK794.out 7).trans rfl; have hfz89_0 := blk_frozen BK794.out 0; have hfz89_1 := blk_frozen BK794.out 1; have hfz89_2 := blk_frozen BK794.out 2; have hfz89_3 := blk_frozen BK794.out 3; have hfz89_4 := blk_frozen BK794.out 4; have hfz89_5 := blk_frozen BK794.out 5; have hfz89_6 := blk_frozen BK794.out 6; have hfz89_7 := blk_frozen BK794.out 7) | ((with_reducible refine gate_callee (f := 23) rfl ?_); refine goesL_ (some 78) rfl rfl Try.func23 (by kernel_rfl) rfl #[.agg #[.int .i64 a2_0, .int .i64 a2_1, .int .i64 a2_2, .int .i64 a2_3, .int .i64 a2_4, .int .i64 a2_5, .int .i64 a2_6, .int .i64 a2_7]] rfl (by (try simp only [List.map_toArray, List.map_cons, List.map_nil]); first | done | rfl | (simp only [List.length_drop, List.length_take]; rfl)) ?_; (with_reducible refine (cressetref03_CheckMaster.calls kj39 a2_0 a2_1 a2_2 a2_3 a2_4 a2_5 a2_6 a2_7 t835 _ A84.out).mono ?_); rintro e w90 ⟨rfl, hb⟩; refine ⟨_, rfl, ?_⟩; have n0_ := Aside0.mk (Kd.R_below (by (with_reducible repeat (first | apply Kd.R_alloc | apply Kd.R_drewN | apply Kd.R_drew)); exact HO823.out) hb); have n1_ := Aside0.mk (blk_below (g := gb792) (o := .cells #[.int .i64 a0_0, .slice A0_1 l0_1.length c0_1] 24 (0, 0)) (by (with_reducible repeat (first | refine blk_drewN ?_ _ | refine blk_drew ?_ | refine blk_alloc ?_ _)); exact BK792.out) hb); have n2_ := Aside0.mk (blk_below (g := gb793) (o := .cells #[.int .i64 a1_0, .slice A1_1 l1_1.length c1_1, .bool a1_2] 27 (0, 0)) (by (with_reducible repeat (first | refine blk_drewN ?_ _ | refine blk_drew ?_ | refine blk_alloc ?_ _)); exact BK793.out) hb); have n3_ := Aside0.mk (blk_below (g := gb794) (o := .cells #[.int .i64 a2_0, .int .i64 a2_1, .int .i64 a2_2, .int .i64 a2_3, .int .i64 a2_4, .int .i64 a2_5, .int .i64 a2_6, .int .i64 a2_7] 31 (0, 0)) (by (with_reducible repeat (first | refine blk_drewN ?_ _ | refine blk_drew ?_ | refine blk_alloc ?_ _)); exact BK794.out) hb); have n4_ := Aside0.mk (below_step (by repeat (first | (with_reducible first | exact HB.out | apply below_alloc | apply pw_below_drewN | apply below_drew1 | refine below_set ?_ GE792.out | refine below_set ?_ GE793.out | refine below_set ?_ GE794.out) | exact HB.out)) hb); clear HO823; clear BK792; clear BK793; clear BK794; clear HB; have HO823 := n0_; have BK792 := n1_; have BK793 := n2_; have BK794 := n3_; have HB := n4_; clear n0_ n1_ n2_ n3_ n4_; (try clear hb); (try clear hb2); (try clear hk); (try clear hi)))
       go_ret
       exact ⟨by first | exact congrArg (fun b_ => Ending.returned (.bool b_)) HRT.out | exact congrArg (fun b_ => Ending.returned (.bool b_)) (by simpa using HRT.out) | rfl | (simp [errW_none, errW_some] <;> rfl) | (simp [*, errW_none, errW_some] <;> rfl), by repeat (first | (with_reducible first | exact HB.out | apply below_alloc | apply pw_below_drewN | apply below_drew1 | refine below_set ?_ GE792.out | refine below_set ?_ GE793.out | refine below_set ?_ GE794.out) | exact HB.out)⟩
 ·
  replace c5 := Bool.eq_false_iff.mpr c5
  subst c5
  have H1 : (some false) = some true := by rw [if_neg (show ¬ (false = true) by decide)] at H; first | done | exact H
  clear H
  have H := H1
  clear H1
  exact absurd H (by simp)

def cressetlaw03_RecordBack.Pure : Prop := ∀ (a0_0 : Int) (l0_1 : List (S33)) (a1_0 : Int) (l1_1 : List (S74)) (a1_2 : Bool) (a2_0 : Int) (a2_1 : Int) (a2_2 : Int) (a2_3 : Int) (a2_4 : Int) (a2_5 : Int) (a2_6 : Int) (a2_7 : Int), (Lit.int .i64 a0_0).wf = true → (l0_1.length ≤ maxLen ∧ l0_1.length * 40 ≤ 140737488351232 ∧ ∀ x_ ∈ l0_1, ok33 x_) → (Lit.int .i64 a1_0).wf = true → (l1_1.length ≤ maxLen ∧ l1_1.length * 40 ≤ 140737488351232 ∧ ∀ x_ ∈ l1_1, ok74 x_) → (Lit.int .i64 a2_0).wf = true → (Lit.int .i64 a2_1).wf = true → (Lit.int .i64 a2_2).wf = true → (Lit.int .i64 a2_3).wf = true → (Lit.int .i64 a2_4).wf = true → (Lit.int .i64 a2_5).wf = true → (Lit.int .i64 a2_6).wf = true → (Lit.int .i64 a2_7).wf = true → ∃ k, cressetlaw03_RecordBack.f k a0_0 l0_1 a1_0 l1_1 a1_2 a2_0 a2_1 a2_2 a2_3 a2_4 a2_5 a2_6 a2_7 = some true
theorem cressetlaw03_RecordBack.walk (P : cressetlaw03_RecordBack.Pure) (a0_0 : Int) (A0_1 : Option Addr) (c0_1 : Nat) (l0_1 : List (S33)) (a1_0 : Int) (A1_1 : Option Addr) (c1_1 : Nat) (l1_1 : List (S74)) (a1_2 : Bool) (a2_0 : Int) (a2_1 : Int) (a2_2 : Int) (a2_3 : Int) (a2_4 : Int) (a2_5 : Int) (a2_6 : Int) (a2_7 : Int) (w : World) (hr0_1 : Kd.C k33 w A0_1 l0_1.length l0_1) (hc0_1 : l0_1.length ≤ c0_1) (hr1_1 : Kd.C k74 w A1_1 l1_1.length l1_1) (hc1_1 : l1_1.length ≤ c1_1) (w0_0 : (Lit.int .i64 a0_0).wf = true) (w0_1 : (l0_1.length ≤ maxLen ∧ l0_1.length * 40 ≤ 140737488351232 ∧ ∀ x_ ∈ l0_1, ok33 x_)) (w1_0 : (Lit.int .i64 a1_0).wf = true) (w1_1 : (l1_1.length ≤ maxLen ∧ l1_1.length * 40 ≤ 140737488351232 ∧ ∀ x_ ∈ l1_1, ok74 x_)) (w2_0 : (Lit.int .i64 a2_0).wf = true) (w2_1 : (Lit.int .i64 a2_1).wf = true) (w2_2 : (Lit.int .i64 a2_2).wf = true) (w2_3 : (Lit.int .i64 a2_3).wf = true) (w2_4 : (Lit.int .i64 a2_4).wf = true) (w2_5 : (Lit.int .i64 a2_5).wf = true) (w2_6 : (Lit.int .i64 a2_6).wf = true) (w2_7 : (Lit.int .i64 a2_7).wf = true) :
  Calls Try.prog 9 #[.agg #[.int .i64 a0_0, .slice A0_1 l0_1.length c0_1], .agg #[.int .i64 a1_0, .slice A1_1 l1_1.length c1_1, .bool a1_2], .agg #[.int .i64 a2_0, .int .i64 a2_1, .int .i64 a2_2, .int .i64 a2_3, .int .i64 a2_4, .int .i64 a2_5, .int .i64 a2_6, .int .i64 a2_7]] w fun e w' => e = .returned (.bool true) ∧ Below w.heap.size w w' := by
 obtain ⟨k, h⟩ := P a0_0 l0_1 a1_0 l1_1 a1_2 a2_0 a2_1 a2_2 a2_3 a2_4 a2_5 a2_6 a2_7 w0_0 w0_1 w1_0 w1_1 w2_0 w2_1 w2_2 w2_3 w2_4 w2_5 w2_6 w2_7
 refine (cressetlaw03_RecordBack.calls k a0_0 A0_1 c0_1 l0_1 a1_0 A1_1 c1_1 l1_1 a1_2 a2_0 a2_1 a2_2 a2_3 a2_4 a2_5 a2_6 a2_7 w hr0_1 hc0_1 hr1_1 hc1_1 h).mono ?_
 rintro e w' ⟨rfl, hd⟩
 exact ⟨rfl, hd⟩

end Go.Proofs.Ytkcdmoghnoodmaa.B

namespace Go.Proofs.Ytkcdmoghnoodmaa.Lib
open Go.RowKit Go.Proofs.Ytkcdmoghnoodmaa.B Go.Proofs.YtkcdmoghnoodmaaW.PrintWords Go.Proofs.YtkcdmoghnoodmaaW.PrintLast
set_option linter.unusedVariables false
set_option linter.unusedSimpArgs false
theorem wr1 {x : Int} (h0 : -9223372036854775808 ≤ x) (h : x ≤ 9223372036854775807) : wrap64 x = x := by
  unfold wrap64; omega
theorem rd33 (l : List S33) (n : Nat) (h : n < l.length) : rd_T33 l (n : Int) = l[n] := by
  unfold rd_T33
  simp [List.getD_eq_getElem?_getD, List.getElem?_eq_getElem h]
theorem rd74 (l : List S74) (n : Nat) (h : n < l.length) : rd_T74 l (n : Int) = l[n] := by
  unfold rd_T74
  simp [List.getD_eq_getElem?_getD, List.getElem?_eq_getElem h]
theorem rdI (l : List Int) (n : Nat) (h : n < l.length) : rd l (n : Int) = l[n] := by
  unfold rd
  simp [List.getD_eq_getElem?_getD, List.getElem?_eq_getElem h]
def keyE (s : ByteArray) : Int := if s.toList = [] then 30 else if (s.size : Int) > 64 then 30 else 0
def valE (s : ByteArray) : Int := if (s.size : Int) > 256 then 31 else 0
def fieldE (b : Bool) : Int := if b = true then 0 else 32
theorem key_eq (s : ByteArray) : record_Key.f s = some (keyE s) := by unfold record_Key.f keyE; split <;> (try split) <;> rfl
theorem keyR_eq (s : ByteArray) : cressetref03_Key.f s = some (keyE s) := by unfold cressetref03_Key.f keyE; split <;> (try split) <;> rfl
theorem val_eq (s : ByteArray) : record_Value.f s = some (valE s) := by unfold record_Value.f valE; split <;> rfl
theorem valR_eq (s : ByteArray) : cressetref03_Value.f s = some (valE s) := by unfold cressetref03_Value.f valE; split <;> rfl
theorem field_eq (b : Bool) : record_field.f b = some (fieldE b) := by unfold record_field.f fieldE; split <;> rfl
def fst : List Int → Int
  | [] => 0
  | a :: l => if a = 0 then fst l else a
theorem first_loop (l : List Int) (hl : l.length ≤ 9223372036854775000) : ∀ (d n : Nat), n + d = l.length → Ev (fun k => record_first.l0 k l (l.length : Int) (n : Int)) (fst (l.drop n))
  | 0, n, h => by
    rw [List.drop_of_length_le (by omega)]
    refine Ev.step (f := fun _ => some 0) (fun k => ?_) (Ev.now _)
    simp only [record_first.l0]
    rw [if_neg (by omega)]
  | d + 1, n, h => by
    have hn : n < l.length := by omega
    have e : wrap64 ((n : Int) + 1) = ((n + 1 : Nat) : Int) := by rw [wr1 (by omega) (by omega)]; omega
    have ih := first_loop l hl d (n + 1) (by omega)
    rw [List.drop_eq_getElem_cons hn, fst]
    refine Ev.step (fun k => by simp only [record_first.l0]; rw [if_pos (by omega), if_pos (by omega), if_pos (by omega), rdI l n hn]) ?_
    by_cases h1 : l[n] = 0
    · simp only [if_pos h1, e]; exact ih
    · simp only [if_neg h1]; exact Ev.now _
theorem first_ev (l : List Int) (hl : l.length ≤ 9223372036854775000) : Ev (fun k => record_first.f k l) (fst l) := first_loop l hl l.length 0 (by omega)
def wrE (x : S33) : Int := fst [keyE x.f0, valE x.f1, if x.f2 = true then fieldE (x.f1.toList == []) else 0]
theorem checkWrite_ev (x : S33) : Ev (fun k => record_CheckWrite.f k x.f0 x.f1 x.f2) (wrE x) := by
  unfold record_CheckWrite.f wrE
  rw [key_eq, val_eq]
  simp only [Option.bind_some, field_eq]
  cases x.f2 with
  | true => simp only [if_true]; exact Ev.bind (first_ev _ (by simp)) (Ev.now _)
  | false => simp only [Bool.false_eq_true, if_false]; exact Ev.bind (first_ev _ (by simp)) (Ev.now _)
theorem checkWriteR_eq (x : S33) : cressetref03_CheckWrite.f x.f0 x.f1 x.f2 = some (wrE x) := by
  unfold cressetref03_CheckWrite.f wrE
  rw [keyR_eq, valR_eq]
  simp only [Option.bind_some, fst]
  by_cases h1 : keyE x.f0 = 0
  · simp only [if_pos h1]
    by_cases h2 : valE x.f1 = 0
    · simp only [if_pos h2]
      cases x.f2 with
      | true =>
        simp only [if_true]
        by_cases h3 : x.f1.toList = []
        · simp [h3, fieldE]
        · have h4 : (x.f1.toList == []) = false := by cases h : x.f1.toList with
            | nil => exact absurd h h3
            | cons _ _ => rfl
          simp [h3, h4, fieldE]
      | false => simp
    · simp only [if_neg h2]
  · simp only [if_neg h1]
end Go.Proofs.Ytkcdmoghnoodmaa.Lib

namespace Go.Proofs.Ytkcdmoghnoodmaa.Lib
open Go.RowKit Go.Proofs.Ytkcdmoghnoodmaa.B Go.Proofs.YtkcdmoghnoodmaaW.PrintWords Go.Proofs.YtkcdmoghnoodmaaW.PrintLast
set_option linter.unusedVariables false
set_option linter.unusedSimpArgs false
abbrev bl := Op.bytesLess
def g33 (l : List S33) (n : Nat) : S33 := l.getD n z33
theorem g33_eq (l : List S33) (n : Nat) (h : n < l.length) : g33 l n = l[n] := by
  unfold g33
  simp [List.getD_eq_getElem?_getD, List.getElem?_eq_getElem h]
theorem fst_two (a : Int) (b : Bool) : fst [a, fieldE b] = if a = 0 then (if b = true then 0 else 32) else a := by
  simp only [fst]
  split
  · cases b <;> rfl
  · rfl
def cmE (l : List S33) : Nat → Nat → Int
  | 0, _ => 0
  | d + 1, n => if wrE (g33 l n) = 0 then (if n = 0 ∨ bl (g33 l (n - 1)).f0.toList (g33 l n).f0.toList = true then cmE l d (n + 1) else 32) else wrE (g33 l n)
theorem commit_loop (a : Int) (l : List S33) (hl : l.length ≤ 9223372036854775000) : ∀ (d n : Nat), n + d = l.length → Ev (fun k => record_CheckCommit.l0 k l (l.length : Int) (n : Int) a l) (cmE l d n)
  | 0, n, h => by
    refine Ev.step (f := fun _ => some 0) (fun k => ?_) (Ev.now _)
    simp only [record_CheckCommit.l0]
    rw [if_neg (by omega)]
  | d + 1, n, h => by
    have hn : n < l.length := by omega
    have e : wrap64 ((n : Int) + 1) = ((n + 1 : Nat) : Int) := by rw [wr1 (by omega) (by omega)]; omega
    have ih := commit_loop a l hl d (n + 1) (by omega)
    unfold cmE
    rw [g33_eq l n hn]
    refine Ev.step (fun k => by simp only [record_CheckCommit.l0]; rw [if_pos (by omega), if_pos (by omega), if_pos (by omega), rd33 l n hn]) ?_
    refine Ev.bind (checkWrite_ev l[n]) ?_
    have hmid : ∀ b : Bool, Ev (fun k => (record_first.f k [wrE l[n], fieldE b]).bind fun t => record_CheckCommit.j2 k t l (l.length : Int) (n : Int) a l) (if wrE l[n] = 0 then (if b = true then cmE l d (n + 1) else 32) else wrE l[n]) := by
      intro b
      refine Ev.bind (first_ev _ (by simp)) ?_
      rw [fst_two]
      refine Ev.step (fun k => by simp only [record_CheckCommit.j2, e]; rfl) ?_
      by_cases h1 : wrE l[n] = 0
      · simp only [if_pos h1]
        cases b with
        | true => simp only [if_true]; exact ih
        | false => simp only [Bool.false_eq_true, if_false, if_neg (show ¬ (32 : Int) = 0 by decide)]; exact Ev.now _
      · simp only [if_neg h1]
        exact Ev.now _
    by_cases h0 : n = 0
    · subst h0
      simp only [if_pos (show ((0 : Nat) : Int) = 0 by rfl), field_eq, Option.bind_some, e, true_or, if_true]
      have := hmid true
      simpa only [if_true] using this
    · obtain ⟨m, rfl⟩ : ∃ m, n = m + 1 := ⟨n - 1, by omega⟩
      have hm : m < l.length := by omega
      have e2 : wrap64 (((m + 1 : Nat) : Int) - 1) = (m : Int) := by rw [wr1 (by omega) (by omega)]; omega
      simp only [if_neg (show ¬ ((m + 1 : Nat) : Int) = 0 by omega), e2, if_pos (show (0 : Int) ≤ m by omega), if_pos (show (m : Int) < l.length by omega), rd33 l m hm, Nat.add_sub_cancel, g33_eq l m hm, e, field_eq, Option.bind_some, h0, false_or]
      exact hmid _
theorem commitR_loop (a : Int) (l : List S33) (hl : l.length ≤ 9223372036854775000) : ∀ (d n : Nat), n + d = l.length → Ev (fun k => cressetref03_CheckCommit.l0 k (n : Int) a l) (cmE l d n)
  | 0, n, h => by
    refine Ev.step (f := fun _ => some 0) (fun k => ?_) (Ev.now _)
    simp only [cressetref03_CheckCommit.l0]
    rw [if_neg (by omega)]
  | d + 1, n, h => by
    have hn : n < l.length := by omega
    have e : wrap64 ((n : Int) + 1) = ((n + 1 : Nat) : Int) := by rw [wr1 (by omega) (by omega)]; omega
    have ih := commitR_loop a l hl d (n + 1) (by omega)
    unfold cmE
    rw [g33_eq l n hn]
    refine Ev.step (fun k => by simp only [cressetref03_CheckCommit.l0]; rw [if_pos (by omega), if_pos (by omega), rd33 l n hn, checkWriteR_eq]) ?_
    simp only [Option.bind_some]
    by_cases h1 : wrE l[n] = 0
    · simp only [if_pos h1]
      by_cases h0 : n = 0
      · subst h0
        simp only [if_neg (show ¬ ((0 : Nat) : Int) > 0 by omega), e, true_or, if_true]
        exact ih
      · obtain ⟨m, rfl⟩ : ∃ m, n = m + 1 := ⟨n - 1, by omega⟩
        have hm : m < l.length := by omega
        have e2 : wrap64 (((m + 1 : Nat) : Int) - 1) = (m : Int) := by rw [wr1 (by omega) (by omega)]; omega
        simp only [if_pos (show ((m + 1 : Nat) : Int) > 0 by omega), e2, if_pos (show (0 : Int) ≤ m by omega), if_pos (show (m : Int) < l.length by omega), rd33 l m hm, Nat.add_sub_cancel, g33_eq l m hm, e, h0, false_or]
        by_cases h2 : Op.bytesLess l[m].f0.toList l[m + 1].f0.toList = true
        · simp only [if_pos h2]; exact ih
        · simp only [if_neg h2]; exact Ev.now _
    · simp only [if_neg h1]
      exact Ev.now _
def tsE (a : Int) : Bool := decide (a ≥ 1) && decide (a ≤ 1099511627776)
theorem stamp_eq (a : Int) : record_stamp.f a 1 = some (tsE a) := by
  unfold record_stamp.f tsE
  by_cases h : a ≥ 1
  · rw [if_pos h, decide_eq_true h, Bool.true_and]
  · rw [if_neg h, decide_eq_false h, Bool.false_and]
theorem stampR_eq (a : Int) : cressetref03_ts.f a = some (tsE a) := by
  unfold cressetref03_ts.f tsE
  by_cases h : a ≥ 1
  · rw [if_pos h, decide_eq_true h, Bool.true_and]
  · rw [if_neg h, decide_eq_false h, Bool.false_and]
def commitE (a : Int) (l : List S33) : Int := if tsE a = true ∧ l.length ≠ 0 ∧ l.length ≤ 64 then cmE l l.length 0 else 32
theorem checkCommit_ev (a : Int) (l : List S33) : Ev (fun k => record_CheckCommit.f k a l) (commitE a l) := by
  unfold record_CheckCommit.f commitE
  rw [stamp_eq]
  simp only [Option.bind_some]
  have hbad : Ev (fun k => record_CheckCommit.j0 k true a l) 32 := Ev.step (f := fun _ => some 32) (fun k => by simp only [record_CheckCommit.j0, if_true]) (Ev.now _)
  by_cases h1 : tsE a = true
  · simp only [if_pos h1]
    by_cases h2 : l.length = 0
    · simp only [if_pos (show (l.length : Int) = 0 by omega)]
      rw [if_neg (fun h => h.2.1 h2)]
      exact hbad
    · simp only [if_neg (show ¬ (l.length : Int) = 0 by omega)]
      by_cases h3 : l.length ≤ 64
      · rw [if_pos ⟨h1, h2, h3⟩, decide_eq_false (show ¬ (l.length : Int) > 64 by omega)]
        refine Ev.step (f := fun k => record_CheckCommit.l0 k l (l.length : Int) ((0 : Nat) : Int) a l) (fun k => by simp only [record_CheckCommit.j0, Bool.false_eq_true, if_false]; rfl) ?_
        exact commit_loop a l (by omega) l.length 0 (by omega)
      · rw [if_neg (fun h => h3 h.2.2), decide_eq_true (show (l.length : Int) > 64 by omega)]
        exact hbad
  · simp only [if_neg h1]
    rw [if_neg (fun h => h1 h.1)]
    exact hbad
theorem checkCommitR_ev (a : Int) (l : List S33) : Ev (fun k => cressetref03_CheckCommit.f k a l) (commitE a l) := by
  unfold cressetref03_CheckCommit.f commitE
  rw [stampR_eq]
  simp only [Option.bind_some]
  have hbad : Ev (fun k => cressetref03_CheckCommit.j0 k true a l) 32 := Ev.step (f := fun _ => some 32) (fun k => by simp only [cressetref03_CheckCommit.j0, if_true]) (Ev.now _)
  by_cases h1 : tsE a = true
  · simp only [if_pos h1]
    by_cases h2 : l.length = 0
    · simp only [if_pos (show (l.length : Int) < 1 by omega)]
      rw [if_neg (fun h => h.2.1 h2)]
      exact hbad
    · simp only [if_neg (show ¬ (l.length : Int) < 1 by omega)]
      by_cases h3 : l.length ≤ 64
      · rw [if_pos ⟨h1, h2, h3⟩, decide_eq_false (show ¬ (l.length : Int) > 64 by omega)]
        refine Ev.step (f := fun k => cressetref03_CheckCommit.l0 k ((0 : Nat) : Int) a l) (fun k => by simp only [cressetref03_CheckCommit.j0, Bool.false_eq_true, if_false]; rfl) ?_
        exact commitR_loop a l (by omega) l.length 0 (by omega)
      · rw [if_neg (fun h => h3 h.2.2), decide_eq_true (show (l.length : Int) > 64 by omega)]
        exact hbad
  · simp only [if_neg h1]
    rw [if_neg (fun h => h1 h.1)]
    exact hbad
end Go.Proofs.Ytkcdmoghnoodmaa.Lib

namespace Go.Proofs.Ytkcdmoghnoodmaa.Lib
open Go.RowKit Go.Proofs.Ytkcdmoghnoodmaa.B Go.Proofs.YtkcdmoghnoodmaaW.PrintWords Go.Proofs.YtkcdmoghnoodmaaW.PrintLast
set_option linter.unusedVariables false
set_option linter.unusedSimpArgs false
def g74 (l : List S74) (n : Nat) : S74 := l.getD n z74
theorem g74_eq (l : List S74) (n : Nat) (h : n < l.length) : g74 l n = l[n] := by
  unfold g74
  simp [List.getD_eq_getElem?_getD, List.getElem?_eq_getElem h]
theorem fst_three (a b : Int) (c : Bool) : fst [a, b, fieldE c] = if a = 0 then (if b = 0 then (if c = true then 0 else 32) else b) else a := by
  simp only [fst]
  split
  · split
    · cases c <;> rfl
    · rfl
  · rfl
def chE (l : List S74) : Nat → Nat → Int
  | 0, _ => 0
  | d + 1, n => if keyE (g74 l n).f0 = 0 then (if valE (g74 l n).f1 = 0 then (if (tsE (g74 l n).f2 && (decide (n = 0) || bl (g74 l (n - 1)).f0.toList (g74 l n).f0.toList)) = true then chE l d (n + 1) else 32) else valE (g74 l n).f1) else keyE (g74 l n).f0
theorem chunk_loop (a : Int) (b : Bool) (l : List S74) (hl : l.length ≤ 9223372036854775000) : ∀ (d n : Nat), n + d = l.length → Ev (fun k => record_CheckChunk.l0 k l (l.length : Int) (n : Int) a l b) (chE l d n)
  | 0, n, h => by
    refine Ev.step (f := fun _ => some 0) (fun k => ?_) (Ev.now _)
    simp only [record_CheckChunk.l0]
    rw [if_neg (by omega)]
  | d + 1, n, h => by
    have hn : n < l.length := by omega
    have e : wrap64 ((n : Int) + 1) = ((n + 1 : Nat) : Int) := by rw [wr1 (by omega) (by omega)]; omega
    have ih := chunk_loop a b l hl d (n + 1) (by omega)
    unfold chE
    rw [g74_eq l n hn]
    refine Ev.step (fun k => by simp only [record_CheckChunk.l0]; rw [if_pos (by omega), if_pos (by omega), if_pos (by omega), rd74 l n hn, key_eq, val_eq, stamp_eq]) ?_
    simp only [Option.bind_some]
    have hmid : ∀ c : Bool, Ev (fun k => (record_first.f k [keyE l[n].f0, valE l[n].f1, fieldE c]).bind fun t => record_CheckChunk.j2 k t l (l.length : Int) (n : Int) a l b) (if keyE l[n].f0 = 0 then (if valE l[n].f1 = 0 then (if c = true then chE l d (n + 1) else 32) else valE l[n].f1) else keyE l[n].f0) := by
      intro c
      refine Ev.bind (first_ev _ (by simp)) ?_
      rw [fst_three]
      refine Ev.step (fun k => by simp only [record_CheckChunk.j2, e]; rfl) ?_
      by_cases h1 : keyE l[n].f0 = 0
      · simp only [if_pos h1]
        by_cases h2 : valE l[n].f1 = 0
        · simp only [if_pos h2]
          cases c with
          | true => simp only [if_true]; exact ih
          | false => simp only [Bool.false_eq_true, if_false, if_neg (show ¬ (32 : Int) = 0 by decide)]; exact Ev.now _
        · simp only [if_neg h2]; exact Ev.now _
      · simp only [if_neg h1]
        exact Ev.now _
    cases ht : tsE l[n].f2 with
    | false =>
      simp only [Bool.false_eq_true, if_false, field_eq, Option.bind_some, e, Bool.false_and]
      have := hmid false
      simpa only [Bool.false_eq_true, if_false] using this
    | true =>
      simp only [if_true, Bool.true_and]
      by_cases h0 : n = 0
      · subst h0
        simp only [if_pos (show ((0 : Nat) : Int) = 0 by rfl), field_eq, Option.bind_some, e, decide_true, Bool.true_or]
        exact hmid true
      · obtain ⟨m, rfl⟩ : ∃ m, n = m + 1 := ⟨n - 1, by omega⟩
        have hm : m < l.length := by omega
        have e2 : wrap64 (((m + 1 : Nat) : Int) - 1) = (m : Int) := by rw [wr1 (by omega) (by omega)]; omega
        simp only [if_neg (show ¬ ((m + 1 : Nat) : Int) = 0 by omega), e2, if_pos (show (0 : Int) ≤ m by omega), if_pos (show (m : Int) < l.length by omega), rd74 l m hm, Nat.add_sub_cancel, g74_eq l m hm, e, field_eq, Option.bind_some, decide_eq_false h0, Bool.false_or]
        exact hmid _
theorem chunkR_loop (a : Int) (b : Bool) (l : List S74) (hl : l.length ≤ 9223372036854775000) : ∀ (d n : Nat), n + d = l.length → Ev (fun k => cressetref03_CheckChunk.l0 k (n : Int) a l b) (chE l d n)
  | 0, n, h => by
    refine Ev.step (f := fun _ => some 0) (fun k => ?_) (Ev.now _)
    simp only [cressetref03_CheckChunk.l0]
    rw [if_neg (by omega)]
  | d + 1, n, h => by
    have hn : n < l.length := by omega
    have e : wrap64 ((n : Int) + 1) = ((n + 1 : Nat) : Int) := by rw [wr1 (by omega) (by omega)]; omega
    have ih := chunkR_loop a b l hl d (n + 1) (by omega)
    unfold chE
    rw [g74_eq l n hn]
    refine Ev.step (fun k => by simp only [cressetref03_CheckChunk.l0]; rw [if_pos (by omega), if_pos (by omega), rd74 l n hn, keyR_eq, valR_eq, stampR_eq]) ?_
    simp only [Option.bind_some]
    have hj : ∀ c : Bool, Ev (fun k => cressetref03_CheckChunk.j2 k (n : Int) c a l b) (if c = true then 32 else chE l d (n + 1)) := by
      intro c
      refine Ev.step (fun k => by simp only [cressetref03_CheckChunk.j2, e]; rfl) ?_
      cases c with
      | true => simp only [if_true]; exact Ev.now _
      | false => simp only [Bool.false_eq_true, if_false]; exact ih
    by_cases h1 : keyE l[n].f0 = 0
    · simp only [if_pos h1]
      by_cases h2 : valE l[n].f1 = 0
      · simp only [if_pos h2]
        cases ht : tsE l[n].f2 with
        | false => simp only [Bool.false_eq_true, if_false, Bool.false_and]; simpa only [if_true] using hj true
        | true =>
          simp only [if_true, Bool.true_and]
          by_cases h0 : n = 0
          · subst h0
            simp only [if_neg (show ¬ ((0 : Nat) : Int) > 0 by omega), decide_true, Bool.true_or, if_true]
            simpa only [Bool.false_eq_true, if_false] using hj false
          · obtain ⟨m, rfl⟩ : ∃ m, n = m + 1 := ⟨n - 1, by omega⟩
            have hm : m < l.length := by omega
            have e2 : wrap64 (((m + 1 : Nat) : Int) - 1) = (m : Int) := by rw [wr1 (by omega) (by omega)]; omega
            simp only [if_pos (show ((m + 1 : Nat) : Int) > 0 by omega), e2, if_pos (show (0 : Int) ≤ m by omega), if_pos (show (m : Int) < l.length by omega), rd74 l m hm, Nat.add_sub_cancel, g74_eq l m hm, decide_eq_false h0, Bool.false_or]
            have h4 := hj (!(Op.bytesLess l[m].f0.toList l[m + 1].f0.toList))
            cases h3 : Op.bytesLess l[m].f0.toList l[m + 1].f0.toList with
            | true => rw [h3] at h4; simpa only [Bool.not_true, Bool.false_eq_true, if_false, if_true, h3] using h4
            | false => rw [h3] at h4; simpa only [Bool.not_false, Bool.false_eq_true, if_false, if_true, h3] using h4
      · simp only [if_neg h2]; exact Ev.now _
    · simp only [if_neg h1]; exact Ev.now _
def chunkE (a : Int) (l : List S74) : Int := if 0 ≤ a ∧ a < 4096 ∧ l.length ≤ 16 then chE l l.length 0 else 32
theorem checkChunk_ev (a : Int) (l : List S74) (b : Bool) : Ev (fun k => record_CheckChunk.f k a l b) (chunkE a l) := by
  unfold record_CheckChunk.f chunkE
  have hbad : Ev (fun k => record_CheckChunk.j0 k true a l b) 32 := Ev.step (f := fun _ => some 32) (fun k => by simp only [record_CheckChunk.j0, if_true]) (Ev.now _)
  by_cases h1 : a < 0
  · simp only [if_pos h1]; rw [if_neg (by omega)]; exact hbad
  · simp only [if_neg h1]
    by_cases h2 : a ≥ 4096
    · simp only [if_pos h2]; rw [if_neg (by omega)]; exact hbad
    · simp only [if_neg h2]
      by_cases h3 : l.length ≤ 16
      · rw [if_pos (by omega), decide_eq_false (show ¬ (l.length : Int) > 16 by omega)]
        exact Ev.step (f := fun k => record_CheckChunk.l0 k l (l.length : Int) ((0 : Nat) : Int) a l b) (fun k => by simp only [record_CheckChunk.j0, Bool.false_eq_true, if_false]; rfl) (chunk_loop a b l (by omega) l.length 0 (by omega))
      · rw [if_neg (by omega), decide_eq_true (show (l.length : Int) > 16 by omega)]
        exact hbad
theorem checkChunkR_ev (a : Int) (l : List S74) (b : Bool) : Ev (fun k => cressetref03_CheckChunk.f k a l b) (chunkE a l) := by
  unfold cressetref03_CheckChunk.f chunkE
  have hbad : Ev (fun k => cressetref03_CheckChunk.j0 k true a l b) 32 := Ev.step (f := fun _ => some 32) (fun k => by simp only [cressetref03_CheckChunk.j0, if_true]) (Ev.now _)
  by_cases h1 : a < 0
  · simp only [if_pos h1]; rw [if_neg (by omega)]; exact hbad
  · simp only [if_neg h1]
    by_cases h2 : a ≥ 4096
    · simp only [if_pos h2]; rw [if_neg (by omega)]; exact hbad
    · simp only [if_neg h2]
      by_cases h3 : l.length ≤ 16
      · rw [if_pos (by omega), decide_eq_false (show ¬ (l.length : Int) > 16 by omega)]
        exact Ev.step (f := fun k => cressetref03_CheckChunk.l0 k ((0 : Nat) : Int) a l b) (fun k => by simp only [cressetref03_CheckChunk.j0, Bool.false_eq_true, if_false]; rfl) (chunkR_loop a b l (by omega) l.length 0 (by omega))
      · rw [if_neg (by omega), decide_eq_true (show (l.length : Int) > 16 by omega)]
        exact hbad
def ntE (a : Int) : Bool := decide (a ≥ 0) && decide (a ≤ 1099511627776)
theorem stamp0_eq (a : Int) : record_stamp.f a 0 = some (ntE a) := by
  unfold record_stamp.f ntE
  by_cases h : a ≥ 0
  · rw [if_pos h, decide_eq_true h, Bool.true_and]
  · rw [if_neg h, decide_eq_false h, Bool.false_and]
theorem nought_eq (a : Int) : cressetref03_nought.f a = some (ntE a) := by
  unfold cressetref03_nought.f ntE
  by_cases h : a ≥ 0
  · rw [if_pos h, decide_eq_true h, Bool.true_and]
  · rw [if_neg h, decide_eq_false h, Bool.false_and]
def masterE (a b c d e f g h : Int) : Int := if tsE a = true ∧ (b = 0 ∨ b = 1) ∧ 1 ≤ c ∧ c ≤ 4096 ∧ ntE d = true ∧ ntE e = true ∧ 0 ≤ f ∧ f < 512 ∧ ntE g = true ∧ ntE h = true then 0 else 32
theorem stampB_ts (n : Int) : stampB n 1 = tsE n := by
  have h1 := stampB_eq n 1
  rw [stamp_eq] at h1
  exact (Option.some.inj h1).symm
theorem stampB_nt (n : Int) : stampB n 0 = ntE n := by
  have h1 := stampB_eq n 0
  rw [stamp0_eq] at h1
  exact (Option.some.inj h1).symm
theorem checkMaster_eq (a b c d e f g h : Int) : record_CheckMaster.f a b c d e f g h = some (masterE a b c d e f g h) := by
  unfold record_CheckMaster.f masterE
  simp only [stampB_ts, stampB_nt]
  cases tsE a <;> cases ntE d <;> cases ntE e <;> cases ntE g <;> cases ntE h <;> simp <;> (repeat' split) <;> first | rfl | omega | (simp; omega) | simp_all
theorem checkMasterR_ev (a b c d e f g h : Int) : Ev (fun k => cressetref03_CheckMaster.f k a b c d e f g h) (masterE a b c d e f g h) := by
  have hj : ∀ x : Bool, Ev (fun k => cressetref03_CheckMaster.j0 k x a b c d e f g h) (if x = false ∧ ntE e = true ∧ 0 ≤ f ∧ f < 512 ∧ ntE g = true ∧ ntE h = true then 0 else 32) := by
    intro x
    refine Ev.step (f := fun _ => some (if x = false ∧ ntE e = true ∧ 0 ≤ f ∧ f < 512 ∧ ntE g = true ∧ ntE h = true then 0 else 32)) (fun k => ?_) (Ev.now _)
    simp only [cressetref03_CheckMaster.j0, nought_eq, Option.bind_some]
    cases x <;> cases ntE e <;> cases ntE g <;> cases ntE h <;> simp <;> (repeat' split) <;> first | rfl | omega | (simp; omega) | simp_all
  unfold cressetref03_CheckMaster.f masterE
  simp only [stampR_eq, nought_eq, Option.bind_some]
  have hbad := hj true
  rw [if_neg (by simp)] at hbad
  by_cases h1 : tsE a = true
  · simp only [if_pos h1]
    by_cases h2 : b < 0
    · simp only [if_pos h2]; rw [if_neg (by omega)]; exact hbad
    · simp only [if_neg h2]
      by_cases h3 : b > 1
      · simp only [if_pos h3]; rw [if_neg (by omega)]; exact hbad
      · simp only [if_neg h3]
        by_cases h4 : c < 1
        · simp only [if_pos h4]; rw [if_neg (by omega)]; exact hbad
        · simp only [if_neg h4]
          by_cases h5 : c > 4096
          · simp only [if_pos h5]; rw [if_neg (by omega)]; exact hbad
          · simp only [if_neg h5]
            have := hj (!ntE d)
            have e : ((!ntE d) = false ∧ ntE e = true ∧ 0 ≤ f ∧ f < 512 ∧ ntE g = true ∧ ntE h = true) ↔ (tsE a = true ∧ (b = 0 ∨ b = 1) ∧ 1 ≤ c ∧ c ≤ 4096 ∧ ntE d = true ∧ ntE e = true ∧ 0 ≤ f ∧ f < 512 ∧ ntE g = true ∧ ntE h = true) := by
              rw [Bool.not_eq_false']
              constructor
              · rintro ⟨x1, x2, x3, x4, x5, x6⟩; exact ⟨h1, by omega, by omega, by omega, x1, x2, x3, x4, x5, x6⟩
              · rintro ⟨_, _, _, _, x1, x2, x3, x4, x5, x6⟩; exact ⟨x1, x2, x3, x4, x5, x6⟩
            simp only [e] at this
            exact this
  · simp only [if_neg h1]; rw [if_neg (fun h => h1 h.1)]; exact hbad
theorem live_ev : Ev (fun k => cressetlaw03_live.f k) true := Ev.now _
end Go.Proofs.Ytkcdmoghnoodmaa.Lib

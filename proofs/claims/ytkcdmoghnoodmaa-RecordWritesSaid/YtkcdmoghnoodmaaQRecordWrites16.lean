/-
Of the row RecordWrites: printed walks and plain laws, merged (wip/claim2.py).
-/
import Derived.Test.YtkcdmoghnoodmaaQRecordWrites3
import Derived.Test.YtkcdmoghnoodmaaQRecordWrites4
import Derived.Test.YtkcdmoghnoodmaaQRecordWrites5
import Derived.Test.YtkcdmoghnoodmaaQRecordWrites7
import Derived.Test.YtkcdmoghnoodmaaQRecordWrites8
import Derived.Test.YtkcdmoghnoodmaaQRecordWrites9
import Derived.Test.YtkcdmoghnoodmaaQRecordWrites11
import Derived.Test.YtkcdmoghnoodmaaQRecordWrites12
import Derived.Test.YtkcdmoghnoodmaaQRecordWrites13
import Derived.Test.YtkcdmoghnoodmaaQRecordWrites15
namespace Go.Proofs.Ytkcdmoghnoodmaa.B
open Go.RowKit Go.Proofs.YtkcdmoghnoodmaaW.PrintWords Go.Proofs.YtkcdmoghnoodmaaW.PrintLast Go.Proofs.YtkcdmoghnoodmaaW.PrintMore Go.Proofs.YtkcdmoghnoodmaaW.Mine
attribute [local go_sem] max2_int min2_int max_two min_two max_three min_three max_four min_four str_gtr str_leq str_geq str_max str_min   -- for this text's walks alone
set_option linter.unusedVariables false
set_option linter.unusedSimpArgs false

def cressetlaw03_RecordWrites.f (k : Nat) (a0_0 : Int) (l0_1 : List (S33)) (a1_0 : Int) (l1_1 : List (S74)) (a1_2 : Bool) (a2_0 : Int) (a2_1 : Int) (a2_2 : Int) (a2_3 : Int) (a2_4 : Int) (a2_5 : Int) (a2_6 : Int) (a2_7 : Int) : Option (Bool) := (record_Commit.f k a0_0 l0_1).bind fun bt539 => ((cressetref03_Commit.f k a0_0 l0_1).bind fun bt543 => ((record_Chunk.f k a1_0 l1_1 a1_2).bind fun bt547 => ((cressetref03_Chunk.f k a1_0 l1_1 a1_2).bind fun bt551 => ((record_Master.f k a2_0 a2_1 a2_2 a2_3 a2_4 a2_5 a2_6 a2_7).bind fun bt555 => ((cressetref03_Master.f k a2_0 a2_1 a2_2 a2_3 a2_4 a2_5 a2_6 a2_7).bind fun bt559 => ((cressetlaw03_live.f k).bind fun t563 => (if t563 = true then (if bt539.2 = bt543.2 then ((bytes_Equal.f bt539.1 bt543.1).bind fun t564 => (if t564 = true then (if bt547.2 = bt551.2 then ((bytes_Equal.f bt547.1 bt551.1).bind fun t565 => (if t565 = true then (if bt555.2 = bt559.2 then ((bytes_Equal.f bt555.1 bt559.1).bind fun t566 => (some t566)) else (some false)) else (some false))) else (some false)) else (some false))) else (some false)) else (some false))))))))
set_option maxHeartbeats 8000000 in
set_option maxRecDepth 100000 in
theorem cressetlaw03_RecordWrites.calls (k : Nat) (a0_0 : Int) (A0_1 : Option Addr) (c0_1 : Nat) (l0_1 : List (S33)) (a1_0 : Int) (A1_1 : Option Addr) (c1_1 : Nat) (l1_1 : List (S74)) (a1_2 : Bool) (a2_0 : Int) (a2_1 : Int) (a2_2 : Int) (a2_3 : Int) (a2_4 : Int) (a2_5 : Int) (a2_6 : Int) (a2_7 : Int) (w : World) (hr0_1 : Kd.C k33 w A0_1 l0_1.length l0_1) (hc0_1 : l0_1.length ≤ c0_1) (hr1_1 : Kd.C k74 w A1_1 l1_1.length l1_1) (hc1_1 : l1_1.length ≤ c1_1) (h : cressetlaw03_RecordWrites.f k a0_0 l0_1 a1_0 l1_1 a1_2 a2_0 a2_1 a2_2 a2_3 a2_4 a2_5 a2_6 a2_7 = some true) :
    Calls Try.prog 4 #[.agg #[.int .i64 a0_0, .slice A0_1 l0_1.length c0_1], .agg #[.int .i64 a1_0, .slice A1_1 l1_1.length c1_1, .bool a1_2], .agg #[.int .i64 a2_0, .int .i64 a2_1, .int .i64 a2_2, .int .i64 a2_3, .int .i64 a2_4, .int .i64 a2_5, .int .i64 a2_6, .int .i64 a2_7]] w fun e w' => e = .returned (.bool true) ∧ Below w.heap.size w w' := by
 have hu24 := Try.underlying24
 have hu27 := Try.underlying27
 have hu31 := Try.underlying31
 have HR0_1 := Aside0.mk hr0_1
 have HC0_1 := Aside0.mk hc0_1
 clear hr0_1 hc0_1
 have HR1_1 := Aside0.mk hr1_1
 have HC1_1 := Aside0.mk hc1_1
 clear hr1_1 hc1_1
 have HB := Aside0.mk (Below.refl w.heap.size w)
 have H : ((record_Commit.f k a0_0 l0_1).bind fun bt539 => ((cressetref03_Commit.f k a0_0 l0_1).bind fun bt543 => ((record_Chunk.f k a1_0 l1_1 a1_2).bind fun bt547 => ((cressetref03_Chunk.f k a1_0 l1_1 a1_2).bind fun bt551 => ((record_Master.f k a2_0 a2_1 a2_2 a2_3 a2_4 a2_5 a2_6 a2_7).bind fun bt555 => ((cressetref03_Master.f k a2_0 a2_1 a2_2 a2_3 a2_4 a2_5 a2_6 a2_7).bind fun bt559 => ((cressetlaw03_live.f k).bind fun t563 => (if t563 = true then (if bt539.2 = bt543.2 then ((bytes_Equal.f bt539.1 bt543.1).bind fun t564 => (if t564 = true then (if bt547.2 = bt551.2 then ((bytes_Equal.f bt547.1 bt551.1).bind fun t565 => (if t565 = true then (if bt555.2 = bt559.2 then ((bytes_Equal.f bt555.1 bt559.1).bind fun t566 => (some t566)) else (some false)) else (some false))) else (some false)) else (some false))) else (some false)) else (some false))))))))) = some true := h
 clear h
 replace H := Option.bind_eq_some_iff.mp H
 obtain ⟨⟨t539, t542⟩, A40, H⟩ := H
 replace H : ((cressetref03_Commit.f k a0_0 l0_1).bind fun bt543 => ((record_Chunk.f k a1_0 l1_1 a1_2).bind fun bt547 => ((cressetref03_Chunk.f k a1_0 l1_1 a1_2).bind fun bt551 => ((record_Master.f k a2_0 a2_1 a2_2 a2_3 a2_4 a2_5 a2_6 a2_7).bind fun bt555 => ((cressetref03_Master.f k a2_0 a2_1 a2_2 a2_3 a2_4 a2_5 a2_6 a2_7).bind fun bt559 => ((cressetlaw03_live.f k).bind fun t563 => (if t563 = true then (if t542 = bt543.2 then ((bytes_Equal.f t539 bt543.1).bind fun t564 => (if t564 = true then (if bt547.2 = bt551.2 then ((bytes_Equal.f bt547.1 bt551.1).bind fun t565 => (if t565 = true then (if bt555.2 = bt559.2 then ((bytes_Equal.f bt555.1 bt559.1).bind fun t566 => (some t566)) else (some false)) else (some false))) else (some false)) else (some false))) else (some false)) else (some false)))))))) = some true := H
 have A4 := Aside0.mk A40
 clear A40
 replace H := Option.bind_eq_some_iff.mp H
 obtain ⟨⟨t543, t546⟩, A50, H⟩ := H
 replace H : ((record_Chunk.f k a1_0 l1_1 a1_2).bind fun bt547 => ((cressetref03_Chunk.f k a1_0 l1_1 a1_2).bind fun bt551 => ((record_Master.f k a2_0 a2_1 a2_2 a2_3 a2_4 a2_5 a2_6 a2_7).bind fun bt555 => ((cressetref03_Master.f k a2_0 a2_1 a2_2 a2_3 a2_4 a2_5 a2_6 a2_7).bind fun bt559 => ((cressetlaw03_live.f k).bind fun t563 => (if t563 = true then (if t542 = t546 then ((bytes_Equal.f t539 t543).bind fun t564 => (if t564 = true then (if bt547.2 = bt551.2 then ((bytes_Equal.f bt547.1 bt551.1).bind fun t565 => (if t565 = true then (if bt555.2 = bt559.2 then ((bytes_Equal.f bt555.1 bt559.1).bind fun t566 => (some t566)) else (some false)) else (some false))) else (some false)) else (some false))) else (some false)) else (some false))))))) = some true := H
 have A5 := Aside0.mk A50
 clear A50
 replace H := Option.bind_eq_some_iff.mp H
 obtain ⟨⟨t547, t550⟩, A60, H⟩ := H
 replace H : ((cressetref03_Chunk.f k a1_0 l1_1 a1_2).bind fun bt551 => ((record_Master.f k a2_0 a2_1 a2_2 a2_3 a2_4 a2_5 a2_6 a2_7).bind fun bt555 => ((cressetref03_Master.f k a2_0 a2_1 a2_2 a2_3 a2_4 a2_5 a2_6 a2_7).bind fun bt559 => ((cressetlaw03_live.f k).bind fun t563 => (if t563 = true then (if t542 = t546 then ((bytes_Equal.f t539 t543).bind fun t564 => (if t564 = true then (if t550 = bt551.2 then ((bytes_Equal.f t547 bt551.1).bind fun t565 => (if t565 = true then (if bt555.2 = bt559.2 then ((bytes_Equal.f bt555.1 bt559.1).bind fun t566 => (some t566)) else (some false)) else (some false))) else (some false)) else (some false))) else (some false)) else (some false)))))) = some true := H
 have A6 := Aside0.mk A60
 clear A60
 replace H := Option.bind_eq_some_iff.mp H
 obtain ⟨⟨t551, t554⟩, A70, H⟩ := H
 replace H : ((record_Master.f k a2_0 a2_1 a2_2 a2_3 a2_4 a2_5 a2_6 a2_7).bind fun bt555 => ((cressetref03_Master.f k a2_0 a2_1 a2_2 a2_3 a2_4 a2_5 a2_6 a2_7).bind fun bt559 => ((cressetlaw03_live.f k).bind fun t563 => (if t563 = true then (if t542 = t546 then ((bytes_Equal.f t539 t543).bind fun t564 => (if t564 = true then (if t550 = t554 then ((bytes_Equal.f t547 t551).bind fun t565 => (if t565 = true then (if bt555.2 = bt559.2 then ((bytes_Equal.f bt555.1 bt559.1).bind fun t566 => (some t566)) else (some false)) else (some false))) else (some false)) else (some false))) else (some false)) else (some false))))) = some true := H
 have A7 := Aside0.mk A70
 clear A70
 replace H := Option.bind_eq_some_iff.mp H
 obtain ⟨⟨t555, t558⟩, A80, H⟩ := H
 replace H : ((cressetref03_Master.f k a2_0 a2_1 a2_2 a2_3 a2_4 a2_5 a2_6 a2_7).bind fun bt559 => ((cressetlaw03_live.f k).bind fun t563 => (if t563 = true then (if t542 = t546 then ((bytes_Equal.f t539 t543).bind fun t564 => (if t564 = true then (if t550 = t554 then ((bytes_Equal.f t547 t551).bind fun t565 => (if t565 = true then (if t558 = bt559.2 then ((bytes_Equal.f t555 bt559.1).bind fun t566 => (some t566)) else (some false)) else (some false))) else (some false)) else (some false))) else (some false)) else (some false)))) = some true := H
 have A8 := Aside0.mk A80
 clear A80
 replace H := Option.bind_eq_some_iff.mp H
 obtain ⟨⟨t559, t562⟩, A90, H⟩ := H
 replace H : ((cressetlaw03_live.f k).bind fun t563 => (if t563 = true then (if t542 = t546 then ((bytes_Equal.f t539 t543).bind fun t564 => (if t564 = true then (if t550 = t554 then ((bytes_Equal.f t547 t551).bind fun t565 => (if t565 = true then (if t558 = t562 then ((bytes_Equal.f t555 t559).bind fun t566 => (some t566)) else (some false)) else (some false))) else (some false)) else (some false))) else (some false)) else (some false))) = some true := H
 have A9 := Aside0.mk A90
 clear A90
 replace H := Option.bind_eq_some_iff.mp H
 obtain ⟨t563, A100, H⟩ := H
 replace H : (if t563 = true then (if t542 = t546 then ((bytes_Equal.f t539 t543).bind fun t564 => (if t564 = true then (if t550 = t554 then ((bytes_Equal.f t547 t551).bind fun t565 => (if t565 = true then (if t558 = t562 then ((bytes_Equal.f t555 t559).bind fun t566 => (some t566)) else (some false)) else (some false))) else (some false)) else (some false))) else (some false)) else (some false)) = some true := H
 have A10 := Aside0.mk A100
 clear A100
 by_cases c11 : t563 = true
 ·
  subst c11
  have H1 : (if t542 = t546 then ((bytes_Equal.f t539 t543).bind fun t564 => (if t564 = true then (if t550 = t554 then ((bytes_Equal.f t547 t551).bind fun t565 => (if t565 = true then (if t558 = t562 then ((bytes_Equal.f t555 t559).bind fun t566 => (some t566)) else (some false)) else (some false))) else (some false)) else (some false))) else (some false)) = some true := by rw [if_pos rfl] at H; first | done | exact H
  clear H
  have H := H1
  clear H1
  by_cases c12 : t542 = t546
  ·
   rw [if_pos c12] at H
   have c12b0 : (t542 == t546) = true := beq_iff_eq.mpr c12
   have c12b1 : (t542 != t546) = false := bne_eq_false_iff_eq.mpr c12
   clear c12
   replace H := Option.bind_eq_some_iff.mp H
   obtain ⟨t564, A130, H⟩ := H
   replace H : (if t564 = true then (if t550 = t554 then ((bytes_Equal.f t547 t551).bind fun t565 => (if t565 = true then (if t558 = t562 then ((bytes_Equal.f t555 t559).bind fun t566 => (some t566)) else (some false)) else (some false))) else (some false)) else (some false)) = some true := H
   have A13 := Aside0.mk A130
   clear A130
   by_cases c14 : t564 = true
   ·
    subst c14
    have H1 : (if t550 = t554 then ((bytes_Equal.f t547 t551).bind fun t565 => (if t565 = true then (if t558 = t562 then ((bytes_Equal.f t555 t559).bind fun t566 => (some t566)) else (some false)) else (some false))) else (some false)) = some true := by rw [if_pos rfl] at H; first | done | exact H
    clear H
    have H := H1
    clear H1
    by_cases c15 : t550 = t554
    ·
     rw [if_pos c15] at H
     have c15b0 : (t550 == t554) = true := beq_iff_eq.mpr c15
     have c15b1 : (t550 != t554) = false := bne_eq_false_iff_eq.mpr c15
     clear c15
     replace H := Option.bind_eq_some_iff.mp H
     obtain ⟨t565, A160, H⟩ := H
     replace H : (if t565 = true then (if t558 = t562 then ((bytes_Equal.f t555 t559).bind fun t566 => (some t566)) else (some false)) else (some false)) = some true := H
     have A16 := Aside0.mk A160
     clear A160
     by_cases c17 : t565 = true
     ·
      subst c17
      have H1 : (if t558 = t562 then ((bytes_Equal.f t555 t559).bind fun t566 => (some t566)) else (some false)) = some true := by rw [if_pos rfl] at H; first | done | exact H
      clear H
      have H := H1
      clear H1
      by_cases c18 : t558 = t562
      ·
       rw [if_pos c18] at H
       have c18b0 : (t558 == t562) = true := beq_iff_eq.mpr c18
       have c18b1 : (t558 != t562) = false := bne_eq_false_iff_eq.mpr c18
       clear c18
       replace H := Option.bind_eq_some_iff.mp H
       obtain ⟨t566, A190, H⟩ := H
       replace H : (some t566) = some true := H
       have A19 := Aside0.mk A190
       clear A190
       have HRT := Aside0.mk (Option.some.inj H)
       clear H
       go_enter Try.func4, Try.ntmps4
       go_wp2_with (first | ((with_reducible refine gate_dst (N := 3) rfl ?_); refine box_event ?hg (N := 3) ?hd (cs := #[.int .i64 a0_0, .slice A0_1 l0_1.length c0_1]) (t := 24) ?hr ?_; (case hd => rfl); (case hg => rfl); (case hr => first | (go_simp; done) | (go_simp; rfl)); intro gb536 hg w20 hbox hb; have n0_ := Aside0.mk (below_step (by repeat (first | (with_reducible first | exact HB.out | apply below_alloc | apply pw_below_drewN | apply below_drew1) | exact HB.out)) hb); have n1_ := Aside0.mk (hbox); have n2_ := Aside0.mk ((by rw [hg]; exact (below_size (by repeat (first | (with_reducible first | exact HB.out | apply below_alloc | apply pw_below_drewN | apply below_drew1) | exact HB.out))) : w.heap.size ≤ gb536)); have n3_ := Aside0.mk ((by rw [hg]; exact (below_size (by repeat (first | (with_reducible first | exact HB.out | apply below_alloc | apply pw_below_drewN | apply below_drew1) | exact HB.out))) : w.heap.size ≤ gb536)); clear HB; have HB := n0_; have BK536 := n1_; have GW536 := n2_; have GE536 := n3_; clear n0_ n1_ n2_ n3_; clear hb hbox hg) | ((with_reducible refine gate_dst (N := 4) rfl ?_); refine box_event ?hg (N := 4) ?hd (cs := #[.int .i64 a1_0, .slice A1_1 l1_1.length c1_1, .bool a1_2]) (t := 27) ?hr ?_; (case hd => rfl); (case hg => rfl); (case hr => first | (go_simp; done) | (go_simp; rfl)); intro gb537 hg w21 hbox hb; have n0_ := Aside0.mk (blk_below (g := gb536) (o := .cells #[.int .i64 a0_0, .slice A0_1 l0_1.length c0_1] 24 (0, 0)) (by (with_reducible repeat (first | refine blk_drewN ?_ _ | refine blk_drew ?_ | refine blk_alloc ?_ _)); exact BK536.out) hb); have n1_ := Aside0.mk (below_step (by repeat (first | (with_reducible first | exact HB.out | apply below_alloc | apply pw_below_drewN | apply below_drew1 | refine below_set ?_ GE536.out) | exact HB.out)) hb); have n2_ := Aside0.mk (hbox); have n3_ := Aside0.mk ((by rw [hg]; exact (below_size (by repeat (first | (with_reducible first | exact HB.out | apply below_alloc | apply pw_below_drewN | apply below_drew1 | refine below_set ?_ GE536.out) | exact HB.out))) : w.heap.size ≤ gb537)); have n4_ := Aside0.mk ((by rw [hg]; exact (below_size (by repeat (first | (with_reducible first | exact HB.out | apply below_alloc | apply pw_below_drewN | apply below_drew1 | refine below_set ?_ GE536.out) | exact HB.out))) : w.heap.size ≤ gb537)); have n5_ := Aside0.mk ((by rw [hg]; exact Nat.ne_of_lt (blk_lt (g := gb536) (o := .cells #[.int .i64 a0_0, .slice A0_1 l0_1.length c0_1] 24 (0, 0)) (by (with_reducible repeat (first | refine blk_drewN ?_ _ | refine blk_drew ?_ | refine blk_alloc ?_ _)); exact BK536.out)) : gb536 ≠ gb537)); have n6_ := Aside0.mk ((by rw [hg]; exact Nat.ne_of_gt (blk_lt (g := gb536) (o := .cells #[.int .i64 a0_0, .slice A0_1 l0_1.length c0_1] 24 (0, 0)) (by (with_reducible repeat (first | refine blk_drewN ?_ _ | refine blk_drew ?_ | refine blk_alloc ?_ _)); exact BK536.out)) : gb537 ≠ gb536)); clear BK536; clear HB; have BK536 := n0_; have HB := n1_; have BK537 := n2_; have GW537 := n3_; have GE537 := n4_; have NB536_537 := n5_; have NB537_536 := n6_; clear n0_ n1_ n2_ n3_ n4_ n5_ n6_; clear hb hbox hg) | ((with_reducible refine gate_dst (N := 5) rfl ?_); refine box_event ?hg (N := 5) ?hd (cs := #[.int .i64 a2_0, .int .i64 a2_1, .int .i64 a2_2, .int .i64 a2_3, .int .i64 a2_4, .int .i64 a2_5, .int .i64 a2_6, .int .i64 a2_7]) (t := 31) ?hr ?_; (case hd => rfl); (case hg => rfl); (case hr => first | (go_simp; done) | (go_simp; rfl)); intro gb538 hg w22 hbox hb; have n0_ := Aside0.mk (blk_below (g := gb536) (o := .cells #[.int .i64 a0_0, .slice A0_1 l0_1.length c0_1] 24 (0, 0)) (by (with_reducible repeat (first | refine blk_drewN ?_ _ | refine blk_drew ?_ | refine blk_alloc ?_ _)); exact BK536.out) hb); have n1_ := Aside0.mk (blk_below (g := gb537) (o := .cells #[.int .i64 a1_0, .slice A1_1 l1_1.length c1_1, .bool a1_2] 27 (0, 0)) (by (with_reducible repeat (first | refine blk_drewN ?_ _ | refine blk_drew ?_ | refine blk_alloc ?_ _)); exact BK537.out) hb); have n2_ := Aside0.mk (below_step (by repeat (first | (with_reducible first | exact HB.out | apply below_alloc | apply pw_below_drewN | apply below_drew1 | refine below_set ?_ GE536.out | refine below_set ?_ GE537.out) | exact HB.out)) hb); have n3_ := Aside0.mk (hbox); have n4_ := Aside0.mk ((by rw [hg]; exact (below_size (by repeat (first | (with_reducible first | exact HB.out | apply below_alloc | apply pw_below_drewN | apply below_drew1 | refine below_set ?_ GE536.out | refine below_set ?_ GE537.out) | exact HB.out))) : w.heap.size ≤ gb538)); have n5_ := Aside0.mk ((by rw [hg]; exact (below_size (by repeat (first | (with_reducible first | exact HB.out | apply below_alloc | apply pw_below_drewN | apply below_drew1 | refine below_set ?_ GE536.out | refine below_set ?_ GE537.out) | exact HB.out))) : w.heap.size ≤ gb538)); have n6_ := Aside0.mk ((by rw [hg]; exact Nat.ne_of_lt (blk_lt (g := gb536) (o := .cells #[.int .i64 a0_0, .slice A0_1 l0_1.length c0_1] 24 (0, 0)) (by (with_reducible repeat (first | refine blk_drewN ?_ _ | refine blk_drew ?_ | refine blk_alloc ?_ _)); exact BK536.out)) : gb536 ≠ gb538)); have n7_ := Aside0.mk ((by rw [hg]; exact Nat.ne_of_gt (blk_lt (g := gb536) (o := .cells #[.int .i64 a0_0, .slice A0_1 l0_1.length c0_1] 24 (0, 0)) (by (with_reducible repeat (first | refine blk_drewN ?_ _ | refine blk_drew ?_ | refine blk_alloc ?_ _)); exact BK536.out)) : gb538 ≠ gb536)); have n8_ := Aside0.mk ((by rw [hg]; exact Nat.ne_of_lt (blk_lt (g := gb537) (o := .cells #[.int .i64 a1_0, .slice A1_1 l1_1.length c1_1, .bool a1_2] 27 (0, 0)) (by (with_reducible repeat (first | refine blk_drewN ?_ _ | refine blk_drew ?_ | refine blk_alloc ?_ _)); exact BK537.out)) : gb537 ≠ gb538)); have n9_ := Aside0.mk ((by rw [hg]; exact Nat.ne_of_gt (blk_lt (g := gb537) (o := .cells #[.int .i64 a1_0, .slice A1_1 l1_1.length c1_1, .bool a1_2] 27 (0, 0)) (by (with_reducible repeat (first | refine blk_drewN ?_ _ | refine blk_drew ?_ | refine blk_alloc ?_ _)); exact BK537.out)) : gb538 ≠ gb537)); clear BK536; clear BK537; clear HB; have BK536 := n0_; have BK537 := n1_; have HB := n2_; have BK538 := n3_; have GW538 := n4_; have GE538 := n5_; have NB536_538 := n6_; have NB538_536 := n7_; have NB537_538 := n8_; have NB538_537 := n9_; clear n0_ n1_ n2_ n3_ n4_ n5_ n6_ n7_ n8_ n9_; clear hb hbox hg; have hnb23 := NB536_537.out; have hnc23 := NB537_536.out; have hnb24 := NB536_538.out; have hnc24 := NB538_536.out; have hcz25_0 : w22.cell? ⟨gb536, 0, none⟩ = some (.int .i64 a0_0) := (blk_cell BK536.out 0).trans rfl; have hcz25_1 : w22.cell? ⟨gb536, 1, none⟩ = some (.slice A0_1 l0_1.length c0_1) := (blk_cell BK536.out 1).trans rfl; have hfz25_0 := blk_frozen BK536.out 0; have hfz25_1 := blk_frozen BK536.out 1) | ((with_reducible refine gate_callee (f := 24) rfl ?_); refine goesL_ (some 21) rfl rfl Try.func24 (by kernel_rfl) rfl #[.agg #[.int .i64 a0_0, .slice A0_1 l0_1.length c0_1]] rfl (by (try simp only [List.map_toArray, List.map_cons, List.map_nil]); first | done | rfl | (simp only [List.length_drop, List.length_take]; rfl)) ?_; (with_reducible refine (record_Commit.calls k a0_0 _ _ l0_1 t539 t542 _ ?side1 ?side2 A4.out).mono ?_); (case side1 => repeat (first | exact (Kd.C_below HR0_1.out HB.out) | (with_reducible refine Kd.C_alloc ?_ _) | (with_reducible refine Kd.C_drewN ?_ _) | (with_reducible refine Kd.C_drew ?_))); (case side2 => exact HC0_1.out); rintro e w26 ⟨v540, rfl, ho0, hb⟩; refine ⟨_, rfl, ?_⟩; have n0_ := Aside0.mk (Kd.R_lower ho0 (below_size (by repeat (first | (with_reducible first | exact HB.out | apply below_alloc | apply pw_below_drewN | apply below_drew1 | refine below_set ?_ GE536.out | refine below_set ?_ GE537.out | refine below_set ?_ GE538.out) | exact HB.out)))); have n1_ := Aside0.mk (blk_below (g := gb536) (o := .cells #[.int .i64 a0_0, .slice A0_1 l0_1.length c0_1] 24 (0, 0)) (by (with_reducible repeat (first | refine blk_drewN ?_ _ | refine blk_drew ?_ | refine blk_alloc ?_ _)); exact BK536.out) hb); have n2_ := Aside0.mk (blk_below (g := gb537) (o := .cells #[.int .i64 a1_0, .slice A1_1 l1_1.length c1_1, .bool a1_2] 27 (0, 0)) (by (with_reducible repeat (first | refine blk_drewN ?_ _ | refine blk_drew ?_ | refine blk_alloc ?_ _)); exact BK537.out) hb); have n3_ := Aside0.mk (blk_below (g := gb538) (o := .cells #[.int .i64 a2_0, .int .i64 a2_1, .int .i64 a2_2, .int .i64 a2_3, .int .i64 a2_4, .int .i64 a2_5, .int .i64 a2_6, .int .i64 a2_7] 31 (0, 0)) (by (with_reducible repeat (first | refine blk_drewN ?_ _ | refine blk_drew ?_ | refine blk_alloc ?_ _)); exact BK538.out) hb); have n4_ := Aside0.mk (below_step (by repeat (first | (with_reducible first | exact HB.out | apply below_alloc | apply pw_below_drewN | apply below_drew1 | refine below_set ?_ GE536.out | refine below_set ?_ GE537.out | refine below_set ?_ GE538.out) | exact HB.out)) hb); clear BK536; clear BK537; clear BK538; clear HB; have HO541 := n0_; have BK536 := n1_; have BK537 := n2_; have BK538 := n3_; have HB := n4_; clear n0_ n1_ n2_ n3_ n4_; (try clear hb); (try clear hb2); (try clear hk); (try clear hi); (try clear ho0); have hcz27_0 : w26.cell? ⟨gb536, 0, none⟩ = some (.int .i64 a0_0) := (blk_cell BK536.out 0).trans rfl; have hcz27_1 : w26.cell? ⟨gb536, 1, none⟩ = some (.slice A0_1 l0_1.length c0_1) := (blk_cell BK536.out 1).trans rfl; have hfz27_0 := blk_frozen BK536.out 0; have hfz27_1 := blk_frozen BK536.out 1) | ((with_reducible refine gate_callee (f := 25) rfl ?_); refine goesL_ (some 26) rfl rfl Try.func25 (by kernel_rfl) rfl #[.agg #[.int .i64 a0_0, .slice A0_1 l0_1.length c0_1]] rfl (by (try simp only [List.map_toArray, List.map_cons, List.map_nil]); first | done | rfl | (simp only [List.length_drop, List.length_take]; rfl)) ?_; (with_reducible refine (cressetref03_Commit.calls k a0_0 _ _ l0_1 t543 t546 _ ?side1 ?side2 A5.out).mono ?_); (case side1 => repeat (first | exact (Kd.C_below HR0_1.out HB.out) | (with_reducible refine Kd.C_alloc ?_ _) | (with_reducible refine Kd.C_drewN ?_ _) | (with_reducible refine Kd.C_drew ?_))); (case side2 => exact HC0_1.out); rintro e w28 ⟨v544, rfl, ho0, hb⟩; refine ⟨_, rfl, ?_⟩; have n0_ := Aside0.mk (Kd.R_elder' (by (with_reducible repeat (first | apply Kd.R_alloc | apply Kd.R_drewN | apply Kd.R_drew)); exact HO541.out) (Kd.R_base ho0) hb); have n1_ := Aside0.mk (Kd.R_lower (Kd.R_new' ho0 (Kd.R_lt (by (with_reducible repeat (first | apply Kd.R_alloc | apply Kd.R_drewN | apply Kd.R_drew)); exact HO541.out))) (below_size (by repeat (first | (with_reducible first | exact HB.out | apply below_alloc | apply pw_below_drewN | apply below_drew1 | refine below_set ?_ GE536.out | refine below_set ?_ GE537.out | refine below_set ?_ GE538.out) | exact HB.out)))); have n2_ := Aside0.mk (blk_below (g := gb536) (o := .cells #[.int .i64 a0_0, .slice A0_1 l0_1.length c0_1] 24 (0, 0)) (by (with_reducible repeat (first | refine blk_drewN ?_ _ | refine blk_drew ?_ | refine blk_alloc ?_ _)); exact BK536.out) hb); have n3_ := Aside0.mk (blk_below (g := gb537) (o := .cells #[.int .i64 a1_0, .slice A1_1 l1_1.length c1_1, .bool a1_2] 27 (0, 0)) (by (with_reducible repeat (first | refine blk_drewN ?_ _ | refine blk_drew ?_ | refine blk_alloc ?_ _)); exact BK537.out) hb); have n4_ := Aside0.mk (blk_below (g := gb538) (o := .cells #[.int .i64 a2_0, .int .i64 a2_1, .int .i64 a2_2, .int .i64 a2_3, .int .i64 a2_4, .int .i64 a2_5, .int .i64 a2_6, .int .i64 a2_7] 31 (0, 0)) (by (with_reducible repeat (first | refine blk_drewN ?_ _ | refine blk_drew ?_ | refine blk_alloc ?_ _)); exact BK538.out) hb); have n5_ := Aside0.mk (below_step (by repeat (first | (with_reducible first | exact HB.out | apply below_alloc | apply pw_below_drewN | apply below_drew1 | refine below_set ?_ GE536.out | refine below_set ?_ GE537.out | refine below_set ?_ GE538.out) | exact HB.out)) hb); clear HO541; clear BK536; clear BK537; clear BK538; clear HB; have HO541 := n0_; have HO545 := n1_; have BK536 := n2_; have BK537 := n3_; have BK538 := n4_; have HB := n5_; clear n0_ n1_ n2_ n3_ n4_ n5_; (try clear hb); (try clear hb2); (try clear hk); (try clear hi); (try clear ho0); have hnb29 := NB537_538.out; have hnc29 := NB538_537.out; have hcz30_0 : w28.cell? ⟨gb537, 0, none⟩ = some (.int .i64 a1_0) := (blk_cell BK537.out 0).trans rfl; have hcz30_1 : w28.cell? ⟨gb537, 1, none⟩ = some (.slice A1_1 l1_1.length c1_1) := (blk_cell BK537.out 1).trans rfl; have hcz30_2 : w28.cell? ⟨gb537, 2, none⟩ = some (.bool a1_2) := (blk_cell BK537.out 2).trans rfl; have hfz30_0 := blk_frozen BK537.out 0; have hfz30_1 := blk_frozen BK537.out 1; have hfz30_2 := blk_frozen BK537.out 2) | ((with_reducible refine gate_callee (f := 26) rfl ?_); refine goesL_ (some 31) rfl rfl Try.func26 (by kernel_rfl) rfl #[.agg #[.int .i64 a1_0, .slice A1_1 l1_1.length c1_1, .bool a1_2]] rfl (by (try simp only [List.map_toArray, List.map_cons, List.map_nil]); first | done | rfl | (simp only [List.length_drop, List.length_take]; rfl)) ?_; (with_reducible refine (record_Chunk.calls k a1_0 _ _ l1_1 a1_2 t547 t550 _ ?side1 ?side2 A6.out).mono ?_); (case side1 => repeat (first | exact (Kd.C_below HR1_1.out HB.out) | (with_reducible refine Kd.C_alloc ?_ _) | (with_reducible refine Kd.C_drewN ?_ _) | (with_reducible refine Kd.C_drew ?_))); (case side2 => exact HC1_1.out); rintro e w31 ⟨v548, rfl, ho0, hb⟩; refine ⟨_, rfl, ?_⟩; have n0_ := Aside0.mk (Kd.R_elder' (by (with_reducible repeat (first | apply Kd.R_alloc | apply Kd.R_drewN | apply Kd.R_drew)); exact HO541.out) (Kd.R_base ho0) hb); have n1_ := Aside0.mk (Kd.R_elder' (by (with_reducible repeat (first | apply Kd.R_alloc | apply Kd.R_drewN | apply Kd.R_drew)); exact HO545.out) (Kd.R_base ho0) hb); have n2_ := Aside0.mk (Kd.R_lower (Kd.R_new' (Kd.R_new' ho0 (Kd.R_lt (by (with_reducible repeat (first | apply Kd.R_alloc | apply Kd.R_drewN | apply Kd.R_drew)); exact HO541.out))) (Kd.R_lt (by (with_reducible repeat (first | apply Kd.R_alloc | apply Kd.R_drewN | apply Kd.R_drew)); exact HO545.out))) (below_size (by repeat (first | (with_reducible first | exact HB.out | apply below_alloc | apply pw_below_drewN | apply below_drew1 | refine below_set ?_ GE536.out | refine below_set ?_ GE537.out | refine below_set ?_ GE538.out) | exact HB.out)))); have n3_ := Aside0.mk (blk_below (g := gb536) (o := .cells #[.int .i64 a0_0, .slice A0_1 l0_1.length c0_1] 24 (0, 0)) (by (with_reducible repeat (first | refine blk_drewN ?_ _ | refine blk_drew ?_ | refine blk_alloc ?_ _)); exact BK536.out) hb); have n4_ := Aside0.mk (blk_below (g := gb537) (o := .cells #[.int .i64 a1_0, .slice A1_1 l1_1.length c1_1, .bool a1_2] 27 (0, 0)) (by (with_reducible repeat (first | refine blk_drewN ?_ _ | refine blk_drew ?_ | refine blk_alloc ?_ _)); exact BK537.out) hb); have n5_ := Aside0.mk (blk_below (g := gb538) (o := .cells #[.int .i64 a2_0, .int .i64 a2_1, .int .i64 a2_2, .int .i64 a2_3, .int .i64 a2_4, .int .i64 a2_5, .int .i64 a2_6, .int .i64 a2_7] 31 (0, 0)) (by (with_reducible repeat (first | refine blk_drewN ?_ _ | refine blk_drew ?_ | refine blk_alloc ?_ _)); exact BK538.out) hb); have n6_ := Aside0.mk (below_step (by repeat (first | (with_reducible first | exact HB.out | apply below_alloc | apply pw_below_drewN | apply below_drew1 | refine below_set ?_ GE536.out | refine below_set ?_ GE537.out | refine below_set ?_ GE538.out) | exact HB.out)) hb); clear HO541; clear HO545; clear BK536; clear BK537; clear BK538; clear HB; have HO541 := n0_; have HO545 := n1_; have HO549 := n2_; have BK536 := n3_; have BK537 := n4_; have BK538 := n5_; have HB := n6_; clear n0_ n1_ n2_ n3_ n4_ n5_ n6_; (try clear hb); (try clear hb2); (try clear hk); (try clear hi); (try clear ho0); have hcz32_0 : w31.cell? ⟨gb537, 0, none⟩ = some (.int .i64 a1_0) := (blk_cell BK537.out 0).trans rfl; have hcz32_1 : w31.cell? ⟨gb537, 1, none⟩ = some (.slice A1_1 l1_1.length c1_1) := (blk_cell BK537.out 1).trans rfl; have hcz32_2 : w31.cell? ⟨gb537, 2, none⟩ = some (.bool a1_2) := (blk_cell BK537.out 2).trans rfl; have hfz32_0 := blk_frozen BK537.out 0; have hfz32_1 := blk_frozen BK537.out 1; have hfz32_2 := blk_frozen BK537.out 2) | ((with_reducible refine gate_callee (f := 27) rfl ?_); refine goesL_ (some 36) rfl rfl Try.func27 (by kernel_rfl) rfl #[.agg #[.int .i64 a1_0, .slice A1_1 l1_1.length c1_1, .bool a1_2]] rfl (by (try simp only [List.map_toArray, List.map_cons, List.map_nil]); first | done | rfl | (simp only [List.length_drop, List.length_take]; rfl)) ?_; (with_reducible refine (cressetref03_Chunk.calls k a1_0 _ _ l1_1 a1_2 t551 t554 _ ?side1 ?side2 A7.out).mono ?_); (case side1 => repeat (first | exact (Kd.C_below HR1_1.out HB.out) | (with_reducible refine Kd.C_alloc ?_ _) | (with_reducible refine Kd.C_drewN ?_ _) | (with_reducible refine Kd.C_drew ?_))); (case side2 => exact HC1_1.out); rintro e w33 ⟨v552, rfl, ho0, hb⟩; refine ⟨_, rfl, ?_⟩; have n0_ := Aside0.mk (Kd.R_elder' (by (with_reducible repeat (first | apply Kd.R_alloc | apply Kd.R_drewN | apply Kd.R_drew)); exact HO541.out) (Kd.R_base ho0) hb); have n1_ := Aside0.mk (Kd.R_elder' (by (with_reducible repeat (first | apply Kd.R_alloc | apply Kd.R_drewN | apply Kd.R_drew)); exact HO545.out) (Kd.R_base ho0) hb); have n2_ := Aside0.mk (Kd.R_elder' (by (with_reducible repeat (first | apply Kd.R_alloc | apply Kd.R_drewN | apply Kd.R_drew)); exact HO549.out) (Kd.R_base ho0) hb); have n3_ := Aside0.mk (Kd.R_lower (Kd.R_new' (Kd.R_new' (Kd.R_new' ho0 (Kd.R_lt (by (with_reducible repeat (first | apply Kd.R_alloc | apply Kd.R_drewN | apply Kd.R_drew)); exact HO541.out))) (Kd.R_lt (by (with_reducible repeat (first | apply Kd.R_alloc | apply Kd.R_drewN | apply Kd.R_drew)); exact HO545.out))) (Kd.R_lt (by (with_reducible repeat (first | apply Kd.R_alloc | apply Kd.R_drewN | apply Kd.R_drew)); exact HO549.out))) (below_size (by repeat (first | (with_reducible first | exact HB.out | apply below_alloc | apply pw_below_drewN | apply below_drew1 | refine below_set ?_ GE536.out | refine below_set ?_ GE537.out | refine below_set ?_ GE538.out) | exact HB.out)))); have n4_ := Aside0.mk (blk_below (g := gb536) (o := .cells #[.int .i64 a0_0, .slice A0_1 l0_1.length c0_1] 24 (0, 0)) (by (with_reducible repeat (first | refine blk_drewN ?_ _ | refine blk_drew ?_ | refine blk_alloc ?_ _)); exact BK536.out) hb); have n5_ := Aside0.mk (blk_below (g := gb537) (o := .cells #[.int .i64 a1_0, .slice A1_1 l1_1.length c1_1, .bool a1_2] 27 (0, 0)) (by (with_reducible repeat (first | refine blk_drewN ?_ _ | refine blk_drew ?_ | refine blk_alloc ?_ _)); exact BK537.out) hb); have n6_ := Aside0.mk (blk_below (g := gb538) (o := .cells #[.int .i64 a2_0, .int .i64 a2_1, .int .i64 a2_2, .int .i64 a2_3, .int .i64 a2_4, .int .i64 a2_5, .int .i64 a2_6, .int .i64 a2_7] 31 (0, 0)) (by (with_reducible repeat (first | refine blk_drewN ?_ _ | refine blk_drew ?_ | refine blk_alloc ?_ _)); exact BK538.out) hb); have n7_ := Aside0.mk (below_step (by repeat (first | (with_reducible first | exact HB.out | apply below_alloc | apply pw_below_drewN | apply below_drew1 | refine below_set ?_ GE536.out | refine below_set ?_ GE537.out | refine below_set ?_ GE538.out) | exact HB.out)) hb); clear HO541; clear HO545; clear HO549; clear BK536; clear BK537; clear BK538; clear HB; have HO541 := n0_; have HO545 := n1_; have HO549 := n2_; have HO553 := n3_; have BK536 := n4_; have BK537 := n5_; have BK538 := n6_; have HB := n7_; clear n0_ n1_ n2_ n3_ n4_ n5_ n6_ n7_; (try clear hb); (try clear hb2); (try clear hk); (try clear hi); (try clear ho0); have hcz34_0 : w33.cell? ⟨gb538, 0, none⟩ = some (.int .i64 a2_0) := (blk_cell BK538.out 0).trans rfl; have hcz34_1 : w33.cell? ⟨gb538, 1, none⟩ = some (.int .i64 a2_1) := (blk_cell BK538.out 1).trans rfl; have hcz34_2 : w33.cell? ⟨gb538, 2, none⟩ = some (.int .i64 a2_2) := (blk_cell BK538.out 2).trans rfl; have hcz34_3 : w33.cell? ⟨gb538, 3, none⟩ = some (.int .i64 a2_3) := (blk_cell BK538.out 3).trans rfl; have hcz34_4 : w33.cell? ⟨gb538, 4, none⟩ = some (.int .i64 a2_4) := (blk_cell BK538.out 4).trans rfl; have hcz34_5 : w33.cell? ⟨gb538, 5, none⟩ = some (.int .i64 a2_5) := (blk_cell BK538.out 5).trans rfl; have hcz34_6 : w33.cell? ⟨gb538, 6, none⟩ = some (.int .i64 a2_6) := (blk_cell BK538.out 6).trans rfl; have hcz34_7 : w33.cell? ⟨gb538, 7, none⟩ = some (.int .i64 a2_7) := (blk_cell BK538.out 7).trans rfl; have hfz34_0 := blk_frozen BK538.out 0; have hfz34_1 := blk_frozen BK538.out 1; have hfz34_2 := blk_frozen BK538.out 2; have hfz34_3 := blk_frozen BK538.out 3; have hfz34_4 := blk_frozen BK538.out 4; have hfz34_5 := blk_frozen BK538.out 5; have hfz34_6 := blk_frozen BK538.out 6; have hfz34_7 := blk_frozen BK538.out 7) | ((with_reducible refine gate_callee (f := 28) rfl ?_); refine goesL_ (some 41) rfl rfl Try.func28 (by kernel_rfl) rfl #[.agg #[.int .i64 a2_0, .int .i64 a2_1, .int .i64 a2_2, .int .i64 a2_3, .int .i64 a2_4, .int .i64 a2_5, .int .i64 a2_6, .int .i64 a2_7]] rfl (by (try simp only [List.map_toArray, List.map_cons, List.map_nil]); first | done | rfl | (simp only [List.length_drop, List.length_take]; rfl)) ?_; (with_reducible refine (record_Master.calls k a2_0 a2_1 a2_2 a2_3 a2_4 a2_5 a2_6 a2_7 t555 t558 _ A8.out).mono ?_); rintro e w35 ⟨v556, rfl, ho0, hb⟩; refine ⟨_, rfl, ?_⟩; have n0_ := Aside0.mk (Kd.R_elder' (by (with_reducible repeat (first | apply Kd.R_alloc | apply Kd.R_drewN | apply Kd.R_drew)); exact HO541.out) (Kd.R_base ho0) hb); have n1_ := Aside0.mk (Kd.R_elder' (by (with_reducible repeat (first | apply Kd.R_alloc | apply Kd.R_drewN | apply Kd.R_drew)); exact HO545.out) (Kd.R_base ho0) hb); have n2_ := Aside0.mk (Kd.R_elder' (by (with_reducible repeat (first | apply Kd.R_alloc | apply Kd.R_drewN | apply Kd.R_drew)); exact HO549.out) (Kd.R_base ho0) hb); have n3_ := Aside0.mk (Kd.R_elder' (by (with_reducible repeat (first | apply Kd.R_alloc | apply Kd.R_drewN | apply Kd.R_drew)); exact HO553.out) (Kd.R_base ho0) hb); have n4_ := Aside0.mk (Kd.R_lower (Kd.R_new' (Kd.R_new' (Kd.R_new' (Kd.R_new' ho0 (Kd.R_lt (by (with_reducible repeat (first | apply Kd.R_alloc | apply Kd.R_drewN | apply Kd.R_drew)); exact HO541.out))) (Kd.R_lt (by (with_reducible repeat (first | apply Kd.R_alloc | apply Kd.R_drewN | apply Kd.R_drew)); exact HO545.out))) (Kd.R_lt (by (with_reducible repeat (first | apply Kd.R_alloc | apply Kd.R_drewN | apply Kd.R_drew)); exact HO549.out))) (Kd.R_lt (by (with_reducible repeat (first | apply Kd.R_alloc | apply Kd.R_drewN | apply Kd.R_drew)); exact HO553.out))) (below_size (by repeat (first | (with_reducible first | exact HB.out | apply below_alloc | apply pw_below_drewN | apply below_drew1 | refine below_set ?_ GE536.out | refine below_set ?_ GE537.out | refine below_set ?_ GE538.out) | exact HB.out)))); have n5_ := Aside0.mk (blk_below (g := gb536) (o := .cells #[.int .i64 a0_0, .slice A0_1 l0_1.length c0_1] 24 (0, 0)) (by (with_reducible repeat (first | refine blk_drewN ?_ _ | refine blk_drew ?_ | refine blk_alloc ?_ _)); exact BK536.out) hb); have n6_ := Aside0.mk (blk_below (g := gb537) (o := .cells #[.int .i64 a1_0, .slice A1_1 l1_1.length c1_1, .bool a1_2] 27 (0, 0)) (by (with_reducible repeat (first | refine blk_drewN ?_ _ | refine blk_drew ?_ | refine blk_alloc ?_ _)); exact BK537.out) hb); have n7_ := Aside0.mk (blk_below (g := gb538) (o := .cells #[.int .i64 a2_0, .int .i64 a2_1, .int .i64 a2_2, .int .i64 a2_3, .int .i64 a2_4, .int .i64 a2_5, .int .i64 a2_6, .int .i64 a2_7] 31 (0, 0)) (by (with_reducible repeat (first | refine blk_drewN ?_ _ | refine blk_drew ?_ | refine blk_alloc ?_ _)); exact BK538.out) hb); have n8_ := Aside0.mk (below_step (by repeat (first | (with_reducible first | exact HB.out | apply below_alloc | apply pw_below_drewN | apply below_drew1 | refine below_set ?_ GE536.out | refine below_set ?_ GE537.out | refine below_set ?_ GE538.out) | exact HB.out)) hb); clear HO541; clear HO545; clear HO549; clear HO553; clear BK536; clear BK537; clear BK538; clear HB; have HO541 := n0_; have HO545 := n1_; have HO549 := n2_; have HO553 := n3_; have HO557 := n4_; have BK536 := n5_; have BK537 := n6_; have BK538 := n7_; have HB := n8_; clear n0_ n1_ n2_ n3_ n4_ n5_ n6_ n7_ n8_; (try clear hb); (try clear hb2); (try clear hk); (try clear hi); (try clear ho0); have hcz36_0 : w35.cell? ⟨gb538, 0, none⟩ = some (.int .i64 a2_0) := (blk_cell BK538.out 0).trans rfl; have hcz36_1 : w35.cell? ⟨gb538, 1, none⟩ = some (.int .i64 a2_1) := (blk_cell BK538.out 1).trans rfl; have hcz36_2 : w35.cell? ⟨gb538, 2, none⟩ = some (.int .i64 a2_2) := (blk_cell BK538.out 2).trans rfl; have hcz36_3 : w35.cell? ⟨gb538, 3, none⟩ = some (.int .i64 a2_3) := (blk_cell BK538.out 3).trans rfl; have hcz36_4 : w35.cell? ⟨gb538, 4, none⟩ = some (.int .i64 a2_4) := (blk_cell BK538.out 4).trans rfl; have hcz36_5 : w35.cell? ⟨gb538, 5, none⟩ = some (.int .i64 a2_5) := (blk_cell BK538.out 5).trans rfl; have hcz36_6 : w35.cell? ⟨gb538, 6, none⟩ = some (.int .i64 a2_6) := (blk_cell BK538.out 6).trans rfl; have hcz36_7 : w35.cell? ⟨gb538, 7, none⟩ = some (.int .i64 a2_7) := (blk_cell BK538.out 7).trans rfl; have hfz36_0 := blk_frozen BK538.out 0; have hfz36_1 := blk_frozen BK538.out 1; have hfz36_2 := blk_frozen BK538.out 2; have hfz36_3 := blk_frozen BK538.out 3; have hfz36_4 := blk_frozen BK538.out 4; have hfz36_5 := blk_frozen BK538.out 5; have hfz36_6 := blk_frozen BK538.out 6; have hfz36_7 := blk_frozen BK538.out 7) | ((with_reducible refine gate_callee (f := 29) rfl ?_); refine goesL_ (some 46) rfl rfl Try.func29 (by kernel_rfl) rfl #[.agg #[.int .i64 a2_0, .int .i64 a2_1, .int .i64 a2_2, .int .i64 a2_3, .int .i64 a2_4, .int .i64 a2_5, .int .i64 a2_6, .int .i64 a2_7]] rfl (by (try simp only [List.map_toArray, List.map_cons, List.map_nil]); first | done | rfl | (simp only [List.length_drop, List.length_take]; rfl)) ?_; (with_reducible refine (cressetref03_Master.calls k a2_0 a2_1 a2_2 a2_3 a2_4 a2_5 a2_6 a2_7 t559 t562 _ A9.out).mono ?_); rintro e w37 ⟨v560, rfl, ho0, hb⟩; refine ⟨_, rfl, ?_⟩; have n0_ := Aside0.mk (Kd.R_elder' (by (with_reducible repeat (first | apply Kd.R_alloc | apply Kd.R_drewN | apply Kd.R_drew)); exact HO541.out) (Kd.R_base ho0) hb); have n1_ := Aside0.mk (Kd.R_elder' (by (with_reducible repeat (first | apply Kd.R_alloc | apply Kd.R_drewN | apply Kd.R_drew)); exact HO545.out) (Kd.R_base ho0) hb); have n2_ := Aside0.mk (Kd.R_elder' (by (with_reducible repeat (first | apply Kd.R_alloc | apply Kd.R_drewN | apply Kd.R_drew)); exact HO549.out) (Kd.R_base ho0) hb); have n3_ := Aside0.mk (Kd.R_elder' (by (with_reducible repeat (first | apply Kd.R_alloc | apply Kd.R_drewN | apply Kd.R_drew)); exact HO553.out) (Kd.R_base ho0) hb); have n4_ := Aside0.mk (Kd.R_elder' (by (with_reducible repeat (first | apply Kd.R_alloc | apply Kd.R_drewN | apply Kd.R_drew)); exact HO557.out) (Kd.R_base ho0) hb); have n5_ := Aside0.mk (Kd.R_lower (Kd.R_new' (Kd.R_new' (Kd.R_new' (Kd.R_new' (Kd.R_new' ho0 (Kd.R_lt (by (with_reducible repeat (first | apply Kd.R_alloc | apply Kd.R_drewN | apply Kd.R_drew)); exact HO541.out))) (Kd.R_lt (by (with_reducible repeat (first | apply Kd.R_alloc | apply Kd.R_drewN | apply Kd.R_drew)); exact HO545.out))) (Kd.R_lt (by (with_reducible repeat (first | apply Kd.R_alloc | apply Kd.R_drewN | apply Kd.R_drew)); exact HO549.out))) (Kd.R_lt (by (with_reducible repeat (first | apply Kd.R_alloc | apply Kd.R_drewN | apply Kd.R_drew)); exact HO553.out))) (Kd.R_lt (by (with_reducible repeat (first | apply Kd.R_alloc | apply Kd.R_drewN | apply Kd.R_drew)); exact HO557.out))) (below_size (by repeat (first | (with_reducible first | exact HB.out | apply below_alloc | apply pw_below_drewN | apply below_drew1 | refine below_set ?_ GE536.out | refine below_set ?_ GE537.out | refine below_set ?_ GE538.out) | exact HB.out)))); have n6_ := Aside0.mk (blk_below (g := gb536) (o := .cells #[.int .i64 a0_0, .slice A0_1 l0_1.length c0_1] 24 (0, 0)) (by (with_reducible repeat (first | refine blk_drewN ?_ _ | refine blk_drew ?_ | refine blk_alloc ?_ _)); exact BK536.out) hb); have n7_ := Aside0.mk (blk_below (g := gb537) (o := .cells #[.int .i64 a1_0, .slice A1_1 l1_1.length c1_1, .bool a1_2] 27 (0, 0)) (by (with_reducible repeat (first | refine blk_drewN ?_ _ | refine blk_drew ?_ | refine blk_alloc ?_ _)); exact BK537.out) hb); have n8_ := Aside0.mk (blk_below (g := gb538) (o := .cells #[.int .i64 a2_0, .int .i64 a2_1, .int .i64 a2_2, .int .i64 a2_3, .int .i64 a2_4, .int .i64 a2_5, .int .i64 a2_6, .int .i64 a2_7] 31 (0, 0)) (by (with_reducible repeat (first | refine blk_drewN ?_ _ | refine blk_drew ?_ | refine blk_alloc ?_ _)); exact BK538.out) hb); have n9_ := Aside0.mk (below_step (by repeat (first | (with_reducible first | exact HB.out | apply below_alloc | apply pw_below_drewN | apply below_drew1 | refine below_set ?_ GE536.out | refine below_set ?_ GE537.out | refine below_set ?_ GE538.out) | exact HB.out)) hb); clear HO541; clear HO545; clear HO549; clear HO553; clear HO557; clear BK536; clear BK537; clear BK538; clear HB; have HO541 := n0_; have HO545 := n1_; have HO549 := n2_; have HO553 := n3_; have HO557 := n4_; have HO561 := n5_; have BK536 := n6_; have BK537 := n7_; have BK538 := n8_; have HB := n9_; clear n0_ n1_ n2_ n3_ n4_ n5_ n6_ n7_ n8_ n9_; (try clear hb); (try clear hb2); (try clear hk); (try clear hi); (try clear ho0)) | ((with_reducible refine gate_callee (f := 17) rfl ?_); refine goesL_ (some 49) rfl rfl Try.func17 (by kernel_rfl) rfl #[] rfl (by (try simp only [List.map_toArray, List.map_cons, List.map_nil]); first | done | rfl | (simp only [List.length_drop, List.length_take]; rfl)) ?_; (with_reducible refine (cressetlaw03_live.calls k  true _ A10.out).mono ?_); rintro e w38 ⟨rfl, hb⟩; refine ⟨_, rfl, ?_⟩; have n0_ := Aside0.mk (Kd.R_below (by (with_reducible repeat (first | apply Kd.R_alloc | apply Kd.R_drewN | apply Kd.R_drew)); exact HO541.out) hb); have n1_ := Aside0.mk (Kd.R_below (by (with_reducible repeat (first | apply Kd.R_alloc | apply Kd.R_drewN | apply Kd.R_drew)); exact HO545.out) hb); have n2_ := Aside0.mk (Kd.R_below (by (with_reducible repeat (first | apply Kd.R_alloc | apply Kd.R_drewN | apply Kd.R_drew)); exact HO549.out) hb); have n3_ := Aside0.mk (Kd.R_below (by (with_reducible repeat (first | apply Kd.R_alloc | apply Kd.R_drewN | apply Kd.R_drew)); exact HO553.out) hb); have n4_ := Aside0.mk (Kd.R_below (by (with_reducible repeat (first | apply Kd.R_alloc | apply Kd.R_drewN | apply Kd.R_drew)); exact HO557.out) hb); have n5_ := Aside0.mk (Kd.R_below (by (with_reducible repeat (first | apply Kd.R_alloc | apply Kd.R_drewN | apply Kd.R_drew)); exact HO561.out) hb); have n6_ := Aside0.mk (blk_below (g := gb536) (o := .cells #[.int .i64 a0_0, .slice A0_1 l0_1.length c0_1] 24 (0, 0)) (by (with_reducible repeat (first | refine blk_drewN ?_ _ | refine blk_drew ?_ | refine blk_alloc ?_ _)); exact BK536.out) hb); have n7_ := Aside0.mk (blk_below (g := gb537) (o := .cells #[.int .i64 a1_0, .slice A1_1 l1_1.length c1_1, .bool a1_2] 27 (0, 0)) (by (with_reducible repeat (first | refine blk_drewN ?_ _ | refine blk_drew ?_ | refine blk_alloc ?_ _)); exact BK537.out) hb); have n8_ := Aside0.mk (blk_below (g := gb538) (o := .cells #[.int .i64 a2_0, .int .i64 a2_1, .int .i64 a2_2, .int .i64 a2_3, .int .i64 a2_4, .int .i64 a2_5, .int .i64 a2_6, .int .i64 a2_7] 31 (0, 0)) (by (with_reducible repeat (first | refine blk_drewN ?_ _ | refine blk_drew ?_ | refine blk_alloc ?_ _)); exact BK538.out) hb); have n9_ := Aside0.mk (below_step (by repeat (first | (with_reducible first | exact HB.out | apply below_alloc | apply pw_below_drewN | apply below_drew1 | refine below_set ?_ GE536.out | refine below_set ?_ GE537.out | refine below_set ?_ GE538.out) | exact HB.out)) hb); clear HO541; clear HO545; clear HO549; clear HO553; clear HO557; clear HO561; clear BK536; clear BK537; clear BK538; clear HB; have HO541 := n0_; have HO545 := n1_; have HO549 := n2_; have HO553 := n3_; have HO557 := n4_; have HO561 := n5_; have BK536 := n6_; have BK537 := n7_; have BK538 := n8_; have HB := n9_; clear n0_ n1_ n2_ n3_ n4_ n5_ n6_ n7_ n8_ n9_; (try clear hb); (try clear hb2); (try clear hk); (try clear hi); obtain ⟨Ao39, co39, eo39⟩ := Kd.R_slice HO541.out; subst eo39; obtain ⟨Ao40, co40, eo40⟩ := Kd.R_slice HO545.out; subst eo40) | (go_at_call 30; (with_reducible refine (bytes_Equal.calls _ _ t539 _ _ t543 true _ ?side1 ?side2 ?side3 ?side4 A13.out).mono ?_); (case side1 => repeat (first | exact (Kd.R_reads' HO541.out).2.2 | (with_reducible refine Kd.C_alloc ?_ _) | (with_reducible refine Kd.C_drewN ?_ _) | (with_reducible refine Kd.C_drew ?_))); (case side2 => exact (Kd.R_reads' HO541.out).2.1); (case side3 => repeat (first | exact (Kd.R_reads' HO545.out).2.2 | (with_reducible refine Kd.C_alloc ?_ _) | (with_reducible refine Kd.C_drewN ?_ _) | (with_reducible refine Kd.C_drew ?_))); (case side4 => exact (Kd.R_reads' HO545.out).2.1); rintro e w' ⟨rfl, ⟨nd, rfl⟩⟩; obtain ⟨Ao41, co41, eo41⟩ := Kd.R_slice HO549.out; subst eo41; obtain ⟨Ao42, co42, eo42⟩ := Kd.R_slice HO553.out; subst eo42) | (go_at_call 30; (with_reducible refine (bytes_Equal.calls _ _ t547 _ _ t551 true _ ?side1 ?side2 ?side3 ?side4 A16.out).mono ?_); (case side1 => repeat (first | exact (Kd.R_reads' HO549.out).2.2 | (with_reducible refine Kd.C_alloc ?_ _) | (with_reducible refine Kd.C_drewN ?_ _) | (with_reducible refine Kd.C_drew ?_))); (case side2 => exact (Kd.R_reads' HO549.out).2.1); (case side3 => repeat (first | exact (Kd.R_reads' HO553.out).2.2 | (with_reducible refine Kd.C_alloc ?_ _) | (with_reducible refine Kd.C_drewN ?_ _) | (with_reducible refine Kd.C_drew ?_))); (case side4 => exact (Kd.R_reads' HO553.out).2.1); rintro e w' ⟨rfl, ⟨nd, rfl⟩⟩; obtain ⟨Ao43, co43, eo43⟩ := Kd.R_slice HO557.out; subst eo43; obtain ⟨Ao44, co44, eo44⟩ := Kd.R_slice HO561.out; subst eo44) | (go_at_call 30; (with_reducible refine (bytes_Equal.calls _ _ t555 _ _ t559 t566 _ ?side1 ?side2 ?side3 ?side4 A19.out).mono ?_); (case side1 => repeat (first | exact (Kd.R_reads' HO557.out).2.2 | (with_reducible refine Kd.C_alloc ?_ _) | (with_reducible refine Kd.C_drewN ?_ _) | (with_reducible refine Kd.C_drew ?_))); (case side2 => exact (Kd.R_reads' HO557.out).2.1); (case side3 => repeat (first | exact (Kd.R_reads' HO561.out).2.2 | (with_reducible refine Kd.C_alloc ?_ _) | (with_reducible refine Kd.C_drewN ?_ _) | (with_reducible refine Kd.C_drew ?_))); (case side4 => exact (Kd.R_reads' HO561.out).2.1); rintro e w' ⟨rfl, ⟨nd, rfl⟩⟩))
       go_ret
       exact ⟨by first | exact congrArg (fun b_ => Ending.returned (.bool b_)) HRT.out | exact congrArg (fun b_ => Ending.returned (.bool b_)) (by simpa using HRT.out) | rfl | (simp [errW_none, errW_some] <;> rfl) | (simp [*, errW_none, errW_some] <;> rfl), by repeat (first | (with_reducible first | exact HB.out | apply below_alloc | apply pw_below_drewN | apply below_drew1 | refine below_set ?_ GE536.out | refine below_set ?_ GE537.out | refine below_set ?_ GE538.out) | exact HB.out)⟩
      ·
       rw [if_neg c18] at H
       have c18b0 : (t558 == t562) = false := beq_eq_false_iff_ne.mpr c18
       have c18b1 : (t558 != t562) = true := bne_iff_ne.mpr c18
       exact absurd H (by simp)
     ·
      replace c17 := Bool.eq_false_iff.mpr c17
      subst c17
      have H1 : (some false) = some true := by rw [if_neg (show ¬ (false = true) by decide)] at H; first | done | exact H
      clear H
      have H := H1
      clear H1
      exact absurd H (by simp)
    ·
     rw [if_neg c15] at H
     have c15b0 : (t550 == t554) = false := beq_eq_false_iff_ne.mpr c15
     have c15b1 : (t550 != t554) = true := bne_iff_ne.mpr c15
     exact absurd H (by simp)
   ·
    replace c14 := Bool.eq_false_iff.mpr c14
    subst c14
    have H1 : (some false) = some true := by rw [if_neg (show ¬ (false = true) by decide)] at H; first | done | exact H
    clear H
    have H := H1
    clear H1
    exact absurd H (by simp)
  ·
   rw [if_neg c12] at H
   have c12b0 : (t542 == t546) = false := beq_eq_false_iff_ne.mpr c12
   have c12b1 : (t542 != t546) = true := bne_iff_ne.mpr c12
   exact absurd H (by simp)
 ·
  replace c11 := Bool.eq_false_iff.mpr c11
  subst c11
  have H1 : (some false) = some true := by rw [if_neg (show ¬ (false = true) by decide)] at H; first | done | exact H
  clear H
  have H := H1
  clear H1
  exact absurd H (by simp)

def cressetlaw03_RecordWrites.Pure : Prop := ∀ (a0_0 : Int) (l0_1 : List (S33)) (a1_0 : Int) (l1_1 : List (S74)) (a1_2 : Bool) (a2_0 : Int) (a2_1 : Int) (a2_2 : Int) (a2_3 : Int) (a2_4 : Int) (a2_5 : Int) (a2_6 : Int) (a2_7 : Int), (Lit.int .i64 a0_0).wf = true → (l0_1.length ≤ maxLen ∧ l0_1.length * 40 ≤ 140737488351232 ∧ ∀ x_ ∈ l0_1, ok33 x_) → (Lit.int .i64 a1_0).wf = true → (l1_1.length ≤ maxLen ∧ l1_1.length * 40 ≤ 140737488351232 ∧ ∀ x_ ∈ l1_1, ok74 x_) → (Lit.int .i64 a2_0).wf = true → (Lit.int .i64 a2_1).wf = true → (Lit.int .i64 a2_2).wf = true → (Lit.int .i64 a2_3).wf = true → (Lit.int .i64 a2_4).wf = true → (Lit.int .i64 a2_5).wf = true → (Lit.int .i64 a2_6).wf = true → (Lit.int .i64 a2_7).wf = true → ∃ k, cressetlaw03_RecordWrites.f k a0_0 l0_1 a1_0 l1_1 a1_2 a2_0 a2_1 a2_2 a2_3 a2_4 a2_5 a2_6 a2_7 = some true
theorem cressetlaw03_RecordWrites.walk (P : cressetlaw03_RecordWrites.Pure) (a0_0 : Int) (A0_1 : Option Addr) (c0_1 : Nat) (l0_1 : List (S33)) (a1_0 : Int) (A1_1 : Option Addr) (c1_1 : Nat) (l1_1 : List (S74)) (a1_2 : Bool) (a2_0 : Int) (a2_1 : Int) (a2_2 : Int) (a2_3 : Int) (a2_4 : Int) (a2_5 : Int) (a2_6 : Int) (a2_7 : Int) (w : World) (hr0_1 : Kd.C k33 w A0_1 l0_1.length l0_1) (hc0_1 : l0_1.length ≤ c0_1) (hr1_1 : Kd.C k74 w A1_1 l1_1.length l1_1) (hc1_1 : l1_1.length ≤ c1_1) (w0_0 : (Lit.int .i64 a0_0).wf = true) (w0_1 : (l0_1.length ≤ maxLen ∧ l0_1.length * 40 ≤ 140737488351232 ∧ ∀ x_ ∈ l0_1, ok33 x_)) (w1_0 : (Lit.int .i64 a1_0).wf = true) (w1_1 : (l1_1.length ≤ maxLen ∧ l1_1.length * 40 ≤ 140737488351232 ∧ ∀ x_ ∈ l1_1, ok74 x_)) (w2_0 : (Lit.int .i64 a2_0).wf = true) (w2_1 : (Lit.int .i64 a2_1).wf = true) (w2_2 : (Lit.int .i64 a2_2).wf = true) (w2_3 : (Lit.int .i64 a2_3).wf = true) (w2_4 : (Lit.int .i64 a2_4).wf = true) (w2_5 : (Lit.int .i64 a2_5).wf = true) (w2_6 : (Lit.int .i64 a2_6).wf = true) (w2_7 : (Lit.int .i64 a2_7).wf = true) :
  Calls Try.prog 4 #[.agg #[.int .i64 a0_0, .slice A0_1 l0_1.length c0_1], .agg #[.int .i64 a1_0, .slice A1_1 l1_1.length c1_1, .bool a1_2], .agg #[.int .i64 a2_0, .int .i64 a2_1, .int .i64 a2_2, .int .i64 a2_3, .int .i64 a2_4, .int .i64 a2_5, .int .i64 a2_6, .int .i64 a2_7]] w fun e w' => e = .returned (.bool true) ∧ Below w.heap.size w w' := by
 obtain ⟨k, h⟩ := P a0_0 l0_1 a1_0 l1_1 a1_2 a2_0 a2_1 a2_2 a2_3 a2_4 a2_5 a2_6 a2_7 w0_0 w0_1 w1_0 w1_1 w2_0 w2_1 w2_2 w2_3 w2_4 w2_5 w2_6 w2_7
 refine (cressetlaw03_RecordWrites.calls k a0_0 A0_1 c0_1 l0_1 a1_0 A1_1 c1_1 l1_1 a1_2 a2_0 a2_1 a2_2 a2_3 a2_4 a2_5 a2_6 a2_7 w hr0_1 hc0_1 hr1_1 hc1_1 h).mono ?_
 rintro e w' ⟨rfl, hd⟩
 exact ⟨rfl, hd⟩

end Go.Proofs.Ytkcdmoghnoodmaa.B

namespace Go.Proofs.Ytkcdmoghnoodmaa.Lib
open Go.RowKit Go.Proofs.Ytkcdmoghnoodmaa.B Go.Proofs.YtkcdmoghnoodmaaW.PrintWords Go.Proofs.YtkcdmoghnoodmaaW.PrintLast
set_option linter.unusedVariables false
set_option linter.unusedSimpArgs false
theorem wr1 {x : Int} (h0 : -9223372036854775808 ≤ x) (h : x ≤ 9223372036854775807) : wrap64 x = x := by
  unfold wrap64; omega
theorem rd33 (l : List S33) (n : Nat) (h : n < l.length) : rd_T33 l (n : Int) = l[n] := by
  unfold rd_T33
  simp [List.getD_eq_getElem?_getD, List.getElem?_eq_getElem h]
theorem rd74 (l : List S74) (n : Nat) (h : n < l.length) : rd_T74 l (n : Int) = l[n] := by
  unfold rd_T74
  simp [List.getD_eq_getElem?_getD, List.getElem?_eq_getElem h]
theorem rdI (l : List Int) (n : Nat) (h : n < l.length) : rd l (n : Int) = l[n] := by
  unfold rd
  simp [List.getD_eq_getElem?_getD, List.getElem?_eq_getElem h]
def keyE (s : ByteArray) : Int := if s.toList = [] then 30 else if (s.size : Int) > 64 then 30 else 0
def valE (s : ByteArray) : Int := if (s.size : Int) > 256 then 31 else 0
def fieldE (b : Bool) : Int := if b = true then 0 else 32
theorem key_eq (s : ByteArray) : record_Key.f s = some (keyE s) := by unfold record_Key.f keyE; split <;> (try split) <;> rfl
theorem keyR_eq (s : ByteArray) : cressetref03_Key.f s = some (keyE s) := by unfold cressetref03_Key.f keyE; split <;> (try split) <;> rfl
theorem val_eq (s : ByteArray) : record_Value.f s = some (valE s) := by unfold record_Value.f valE; split <;> rfl
theorem valR_eq (s : ByteArray) : cressetref03_Value.f s = some (valE s) := by unfold cressetref03_Value.f valE; split <;> rfl
theorem field_eq (b : Bool) : record_field.f b = some (fieldE b) := by unfold record_field.f fieldE; split <;> rfl
def fst : List Int → Int
  | [] => 0
  | a :: l => if a = 0 then fst l else a
theorem first_loop (l : List Int) (hl : l.length ≤ 9223372036854775000) : ∀ (d n : Nat), n + d = l.length → Ev (fun k => record_first.l0 k l (l.length : Int) (n : Int)) (fst (l.drop n))
  | 0, n, h => by
    rw [List.drop_of_length_le (by omega)]
    refine Ev.step (f := fun _ => some 0) (fun k => ?_) (Ev.now _)
    simp only [record_first.l0]
    rw [if_neg (by omega)]
  | d + 1, n, h => by
    have hn : n < l.length := by omega
    have e : wrap64 ((n : Int) + 1) = ((n + 1 : Nat) : Int) := by rw [wr1 (by omega) (by omega)]; omega
    have ih := first_loop l hl d (n + 1) (by omega)
    rw [List.drop_eq_getElem_cons hn, fst]
    refine Ev.step (fun k => by simp only [record_first.l0]; rw [if_pos (by omega), if_pos (by omega), if_pos (by omega), rdI l n hn]) ?_
    by_cases h1 : l[n] = 0
    · simp only [if_pos h1, e]; exact ih
    · simp only [if_neg h1]; exact Ev.now _
theorem first_ev (l : List Int) (hl : l.length ≤ 9223372036854775000) : Ev (fun k => record_first.f k l) (fst l) := first_loop l hl l.length 0 (by omega)
def wrE (x : S33) : Int := fst [keyE x.f0, valE x.f1, if x.f2 = true then fieldE (x.f1.toList == []) else 0]
theorem checkWrite_ev (x : S33) : Ev (fun k => record_CheckWrite.f k x.f0 x.f1 x.f2) (wrE x) := by
  unfold record_CheckWrite.f wrE
  rw [key_eq, val_eq]
  simp only [Option.bind_some, field_eq]
  cases x.f2 with
  | true => simp only [if_true]; exact Ev.bind (first_ev _ (by simp)) (Ev.now _)
  | false => simp only [Bool.false_eq_true, if_false]; exact Ev.bind (first_ev _ (by simp)) (Ev.now _)
theorem checkWriteR_eq (x : S33) : cressetref03_CheckWrite.f x.f0 x.f1 x.f2 = some (wrE x) := by
  unfold cressetref03_CheckWrite.f wrE
  rw [keyR_eq, valR_eq]
  simp only [Option.bind_some, fst]
  by_cases h1 : keyE x.f0 = 0
  · simp only [if_pos h1]
    by_cases h2 : valE x.f1 = 0
    · simp only [if_pos h2]
      cases x.f2 with
      | true =>
        simp only [if_true]
        by_cases h3 : x.f1.toList = []
        · simp [h3, fieldE]
        · have h4 : (x.f1.toList == []) = false := by cases h : x.f1.toList with
            | nil => exact absurd h h3
            | cons _ _ => rfl
          simp [h3, h4, fieldE]
      | false => simp
    · simp only [if_neg h2]
  · simp only [if_neg h1]
end Go.Proofs.Ytkcdmoghnoodmaa.Lib

namespace Go.Proofs.Ytkcdmoghnoodmaa.Lib
open Go.RowKit Go.Proofs.Ytkcdmoghnoodmaa.B Go.Proofs.YtkcdmoghnoodmaaW.PrintWords Go.Proofs.YtkcdmoghnoodmaaW.PrintLast
set_option linter.unusedVariables false
set_option linter.unusedSimpArgs false
abbrev bl := Op.bytesLess
def g33 (l : List S33) (n : Nat) : S33 := l.getD n z33
theorem g33_eq (l : List S33) (n : Nat) (h : n < l.length) : g33 l n = l[n] := by
  unfold g33
  simp [List.getD_eq_getElem?_getD, List.getElem?_eq_getElem h]
theorem fst_two (a : Int) (b : Bool) : fst [a, fieldE b] = if a = 0 then (if b = true then 0 else 32) else a := by
  simp only [fst]
  split
  · cases b <;> rfl
  · rfl
def cmE (l : List S33) : Nat → Nat → Int
  | 0, _ => 0
  | d + 1, n => if wrE (g33 l n) = 0 then (if n = 0 ∨ bl (g33 l (n - 1)).f0.toList (g33 l n).f0.toList = true then cmE l d (n + 1) else 32) else wrE (g33 l n)
theorem commit_loop (a : Int) (l : List S33) (hl : l.length ≤ 9223372036854775000) : ∀ (d n : Nat), n + d = l.length → Ev (fun k => record_CheckCommit.l0 k l (l.length : Int) (n : Int) a l) (cmE l d n)
  | 0, n, h => by
    refine Ev.step (f := fun _ => some 0) (fun k => ?_) (Ev.now _)
    simp only [record_CheckCommit.l0]
    rw [if_neg (by omega)]
  | d + 1, n, h => by
    have hn : n < l.length := by omega
    have e : wrap64 ((n : Int) + 1) = ((n + 1 : Nat) : Int) := by rw [wr1 (by omega) (by omega)]; omega
    have ih := commit_loop a l hl d (n + 1) (by omega)
    unfold cmE
    rw [g33_eq l n hn]
    refine Ev.step (fun k => by simp only [record_CheckCommit.l0]; rw [if_pos (by omega), if_pos (by omega), if_pos (by omega), rd33 l n hn]) ?_
    refine Ev.bind (checkWrite_ev l[n]) ?_
    have hmid : ∀ b : Bool, Ev (fun k => (record_first.f k [wrE l[n], fieldE b]).bind fun t => record_CheckCommit.j2 k t l (l.length : Int) (n : Int) a l) (if wrE l[n] = 0 then (if b = true then cmE l d (n + 1) else 32) else wrE l[n]) := by
      intro b
      refine Ev.bind (first_ev _ (by simp)) ?_
      rw [fst_two]
      refine Ev.step (fun k => by simp only [record_CheckCommit.j2, e]; rfl) ?_
      by_cases h1 : wrE l[n] = 0
      · simp only [if_pos h1]
        cases b with
        | true => simp only [if_true]; exact ih
        | false => simp only [Bool.false_eq_true, if_false, if_neg (show ¬ (32 : Int) = 0 by decide)]; exact Ev.now _
      · simp only [if_neg h1]
        exact Ev.now _
    by_cases h0 : n = 0
    · subst h0
      simp only [if_pos (show ((0 : Nat) : Int) = 0 by rfl), field_eq, Option.bind_some, e, true_or, if_true]
      have := hmid true
      simpa only [if_true] using this
    · obtain ⟨m, rfl⟩ : ∃ m, n = m + 1 := ⟨n - 1, by omega⟩
      have hm : m < l.length := by omega
      have e2 : wrap64 (((m + 1 : Nat) : Int) - 1) = (m : Int) := by rw [wr1 (by omega) (by omega)]; omega
      simp only [if_neg (show ¬ ((m + 1 : Nat) : Int) = 0 by omega), e2, if_pos (show (0 : Int) ≤ m by omega), if_pos (show (m : Int) < l.length by omega), rd33 l m hm, Nat.add_sub_cancel, g33_eq l m hm, e, field_eq, Option.bind_some, h0, false_or]
      exact hmid _
theorem commitR_loop (a : Int) (l : List S33) (hl : l.length ≤ 9223372036854775000) : ∀ (d n : Nat), n + d = l.length → Ev (fun k => cressetref03_CheckCommit.l0 k (n : Int) a l) (cmE l d n)
  | 0, n, h => by
    refine Ev.step (f := fun _ => some 0) (fun k => ?_) (Ev.now _)
    simp only [cressetref03_CheckCommit.l0]
    rw [if_neg (by omega)]
  | d + 1, n, h => by
    have hn : n < l.length := by omega
    have e : wrap64 ((n : Int) + 1) = ((n + 1 : Nat) : Int) := by rw [wr1 (by omega) (by omega)]; omega
    have ih := commitR_loop a l hl d (n + 1) (by omega)
    unfold cmE
    rw [g33_eq l n hn]
    refine Ev.step (fun k => by simp only [cressetref03_CheckCommit.l0]; rw [if_pos (by omega), if_pos (by omega), rd33 l n hn, checkWriteR_eq]) ?_
    simp only [Option.bind_some]
    by_cases h1 : wrE l[n] = 0
    · simp only [if_pos h1]
      by_cases h0 : n = 0
      · subst h0
        simp only [if_neg (show ¬ ((0 : Nat) : Int) > 0 by omega), e, true_or, if_true]
        exact ih
      · obtain ⟨m, rfl⟩ : ∃ m, n = m + 1 := ⟨n - 1, by omega⟩
        have hm : m < l.length := by omega
        have e2 : wrap64 (((m + 1 : Nat) : Int) - 1) = (m : Int) := by rw [wr1 (by omega) (by omega)]; omega
        simp only [if_pos (show ((m + 1 : Nat) : Int) > 0 by omega), e2, if_pos (show (0 : Int) ≤ m by omega), if_pos (show (m : Int) < l.length by omega), rd33 l m hm, Nat.add_sub_cancel, g33_eq l m hm, e, h0, false_or]
        by_cases h2 : Op.bytesLess l[m].f0.toList l[m + 1].f0.toList = true
        · simp only [if_pos h2]; exact ih
        · simp only [if_neg h2]; exact Ev.now _
    · simp only [if_neg h1]
      exact Ev.now _
def tsE (a : Int) : Bool := decide (a ≥ 1) && decide (a ≤ 1099511627776)
theorem stamp_eq (a : Int) : record_stamp.f a 1 = some (tsE a) := by
  unfold record_stamp.f tsE
  by_cases h : a ≥ 1
  · rw [if_pos h, decide_eq_true h, Bool.true_and]
  · rw [if_neg h, decide_eq_false h, Bool.false_and]
theorem stampR_eq (a : Int) : cressetref03_ts.f a = some (tsE a) := by
  unfold cressetref03_ts.f tsE
  by_cases h : a ≥ 1
  · rw [if_pos h, decide_eq_true h, Bool.true_and]
  · rw [if_neg h, decide_eq_false h, Bool.false_and]
def commitE (a : Int) (l : List S33) : Int := if tsE a = true ∧ l.length ≠ 0 ∧ l.length ≤ 64 then cmE l l.length 0 else 32
theorem checkCommit_ev (a : Int) (l : List S33) : Ev (fun k => record_CheckCommit.f k a l) (commitE a l) := by
  unfold record_CheckCommit.f commitE
  rw [stamp_eq]
  simp only [Option.bind_some]
  have hbad : Ev (fun k => record_CheckCommit.j0 k true a l) 32 := Ev.step (f := fun _ => some 32) (fun k => by simp only [record_CheckCommit.j0, if_true]) (Ev.now _)
  by_cases h1 : tsE a = true
  · simp only [if_pos h1]
    by_cases h2 : l.length = 0
    · simp only [if_pos (show (l.length : Int) = 0 by omega)]
      rw [if_neg (fun h => h.2.1 h2)]
      exact hbad
    · simp only [if_neg (show ¬ (l.length : Int) = 0 by omega)]
      by_cases h3 : l.length ≤ 64
      · rw [if_pos ⟨h1, h2, h3⟩, decide_eq_false (show ¬ (l.length : Int) > 64 by omega)]
        refine Ev.step (f := fun k => record_CheckCommit.l0 k l (l.length : Int) ((0 : Nat) : Int) a l) (fun k => by simp only [record_CheckCommit.j0, Bool.false_eq_true, if_false]; rfl) ?_
        exact commit_loop a l (by omega) l.length 0 (by omega)
      · rw [if_neg (fun h => h3 h.2.2), decide_eq_true (show (l.length : Int) > 64 by omega)]
        exact hbad
  · simp only [if_neg h1]
    rw [if_neg (fun h => h1 h.1)]
    exact hbad
theorem checkCommitR_ev (a : Int) (l : List S33) : Ev (fun k => cressetref03_CheckCommit.f k a l) (commitE a l) := by
  unfold cressetref03_CheckCommit.f commitE
  rw [stampR_eq]
  simp only [Option.bind_some]
  have hbad : Ev (fun k => cressetref03_CheckCommit.j0 k true a l) 32 := Ev.step (f := fun _ => some 32) (fun k => by simp only [cressetref03_CheckCommit.j0, if_true]) (Ev.now _)
  by_cases h1 : tsE a = true
  · simp only [if_pos h1]
    by_cases h2 : l.length = 0
    · simp only [if_pos (show (l.length : Int) < 1 by omega)]
      rw [if_neg (fun h => h.2.1 h2)]
      exact hbad
    · simp only [if_neg (show ¬ (l.length : Int) < 1 by omega)]
      by_cases h3 : l.length ≤ 64
      · rw [if_pos ⟨h1, h2, h3⟩, decide_eq_false (show ¬ (l.length : Int) > 64 by omega)]
        refine Ev.step (f := fun k => cressetref03_CheckCommit.l0 k ((0 : Nat) : Int) a l) (fun k => by simp only [cressetref03_CheckCommit.j0, Bool.false_eq_true, if_false]; rfl) ?_
        exact commitR_loop a l (by omega) l.length 0 (by omega)
      · rw [if_neg (fun h => h3 h.2.2), decide_eq_true (show (l.length : Int) > 64 by omega)]
        exact hbad
  · simp only [if_neg h1]
    rw [if_neg (fun h => h1 h.1)]
    exact hbad
end Go.Proofs.Ytkcdmoghnoodmaa.Lib

namespace Go.Proofs.Ytkcdmoghnoodmaa.Lib
open Go.RowKit Go.Proofs.Ytkcdmoghnoodmaa.B Go.Proofs.YtkcdmoghnoodmaaW.PrintWords Go.Proofs.YtkcdmoghnoodmaaW.PrintLast
set_option linter.unusedVariables false
set_option linter.unusedSimpArgs false
def g74 (l : List S74) (n : Nat) : S74 := l.getD n z74
theorem g74_eq (l : List S74) (n : Nat) (h : n < l.length) : g74 l n = l[n] := by
  unfold g74
  simp [List.getD_eq_getElem?_getD, List.getElem?_eq_getElem h]
theorem fst_three (a b : Int) (c : Bool) : fst [a, b, fieldE c] = if a = 0 then (if b = 0 then (if c = true then 0 else 32) else b) else a := by
  simp only [fst]
  split
  · split
    · cases c <;> rfl
    · rfl
  · rfl
def chE (l : List S74) : Nat → Nat → Int
  | 0, _ => 0
  | d + 1, n => if keyE (g74 l n).f0 = 0 then (if valE (g74 l n).f1 = 0 then (if (tsE (g74 l n).f2 && (decide (n = 0) || bl (g74 l (n - 1)).f0.toList (g74 l n).f0.toList)) = true then chE l d (n + 1) else 32) else valE (g74 l n).f1) else keyE (g74 l n).f0
theorem chunk_loop (a : Int) (b : Bool) (l : List S74) (hl : l.length ≤ 9223372036854775000) : ∀ (d n : Nat), n + d = l.length → Ev (fun k => record_CheckChunk.l0 k l (l.length : Int) (n : Int) a l b) (chE l d n)
  | 0, n, h => by
    refine Ev.step (f := fun _ => some 0) (fun k => ?_) (Ev.now _)
    simp only [record_CheckChunk.l0]
    rw [if_neg (by omega)]
  | d + 1, n, h => by
    have hn : n < l.length := by omega
    have e : wrap64 ((n : Int) + 1) = ((n + 1 : Nat) : Int) := by rw [wr1 (by omega) (by omega)]; omega
    have ih := chunk_loop a b l hl d (n + 1) (by omega)
    unfold chE
    rw [g74_eq l n hn]
    refine Ev.step (fun k => by simp only [record_CheckChunk.l0]; rw [if_pos (by omega), if_pos (by omega), if_pos (by omega), rd74 l n hn, key_eq, val_eq, stamp_eq]) ?_
    simp only [Option.bind_some]
    have hmid : ∀ c : Bool, Ev (fun k => (record_first.f k [keyE l[n].f0, valE l[n].f1, fieldE c]).bind fun t => record_CheckChunk.j2 k t l (l.length : Int) (n : Int) a l b) (if keyE l[n].f0 = 0 then (if valE l[n].f1 = 0 then (if c = true then chE l d (n + 1) else 32) else valE l[n].f1) else keyE l[n].f0) := by
      intro c
      refine Ev.bind (first_ev _ (by simp)) ?_
      rw [fst_three]
      refine Ev.step (fun k => by simp only [record_CheckChunk.j2, e]; rfl) ?_
      by_cases h1 : keyE l[n].f0 = 0
      · simp only [if_pos h1]
        by_cases h2 : valE l[n].f1 = 0
        · simp only [if_pos h2]
          cases c with
          | true => simp only [if_true]; exact ih
          | false => simp only [Bool.false_eq_true, if_false, if_neg (show ¬ (32 : Int) = 0 by decide)]; exact Ev.now _
        · simp only [if_neg h2]; exact Ev.now _
      · simp only [if_neg h1]
        exact Ev.now _
    cases ht : tsE l[n].f2 with
    | false =>
      simp only [Bool.false_eq_true, if_false, field_eq, Option.bind_some, e, Bool.false_and]
      have := hmid false
      simpa only [Bool.false_eq_true, if_false] using this
    | true =>
      simp only [if_true, Bool.true_and]
      by_cases h0 : n = 0
      · subst h0
        simp only [if_pos (show ((0 : Nat) : Int) = 0 by rfl), field_eq, Option.bind_some, e, decide_true, Bool.true_or]
        exact hmid true
      · obtain ⟨m, rfl⟩ : ∃ m, n = m + 1 := ⟨n - 1, by omega⟩
        have hm : m < l.length := by omega
        have e2 : wrap64 (((m + 1 : Nat) : Int) - 1) = (m : Int) := by rw [wr1 (by omega) (by omega)]; omega
        simp only [if_neg (show ¬ ((m + 1 : Nat) : Int) = 0 by omega), e2, if_pos (show (0 : Int) ≤ m by omega), if_pos (show (m : Int) < l.length by omega), rd74 l m hm, Nat.add_sub_cancel, g74_eq l m hm, e, field_eq, Option.bind_some, decide_eq_false h0, Bool.false_or]
        exact hmid _
theorem chunkR_loop (a : Int) (b : Bool) (l : List S74) (hl : l.length ≤ 9223372036854775000) : ∀ (d n : Nat), n + d = l.length → Ev (fun k => cressetref03_CheckChunk.l0 k (n : Int) a l b) (chE l d n)
  | 0, n, h => by
    refine Ev.step (f := fun _ => some 0) (fun k => ?_) (Ev.now _)
    simp only [cressetref03_CheckChunk.l0]
    rw [if_neg (by omega)]
  | d + 1, n, h => by
    have hn : n < l.length := by omega
    have e : wrap64 ((n : Int) + 1) = ((n + 1 : Nat) : Int) := by rw [wr1 (by omega) (by omega)]; omega
    have ih := chunkR_loop a b l hl d (n + 1) (by omega)
    unfold chE
    rw [g74_eq l n hn]
    refine Ev.step (fun k => by simp only [cressetref03_CheckChunk.l0]; rw [if_pos (by omega), if_pos (by omega), rd74 l n hn, keyR_eq, valR_eq, stampR_eq]) ?_
    simp only [Option.bind_some]
    have hj : ∀ c : Bool, Ev (fun k => cressetref03_CheckChunk.j2 k (n : Int) c a l b) (if c = true then 32 else chE l d (n + 1)) := by
      intro c
      refine Ev.step (fun k => by simp only [cressetref03_CheckChunk.j2, e]; rfl) ?_
      cases c with
      | true => simp only [if_true]; exact Ev.now _
      | false => simp only [Bool.false_eq_true, if_false]; exact ih
    by_cases h1 : keyE l[n].f0 = 0
    · simp only [if_pos h1]
      by_cases h2 : valE l[n].f1 = 0
      · simp only [if_pos h2]
        cases ht : tsE l[n].f2 with
        | false => simp only [Bool.false_eq_true, if_false, Bool.false_and]; simpa only [if_true] using hj true
        | true =>
          simp only [if_true, Bool.true_and]
          by_cases h0 : n = 0
          · subst h0
            simp only [if_neg (show ¬ ((0 : Nat) : Int) > 0 by omega), decide_true, Bool.true_or, if_true]
            simpa only [Bool.false_eq_true, if_false] using hj false
          · obtain ⟨m, rfl⟩ : ∃ m, n = m + 1 := ⟨n - 1, by omega⟩
            have hm : m < l.length := by omega
            have e2 : wrap64 (((m + 1 : Nat) : Int) - 1) = (m : Int) := by rw [wr1 (by omega) (by omega)]; omega
            simp only [if_pos (show ((m + 1 : Nat) : Int) > 0 by omega), e2, if_pos (show (0 : Int) ≤ m by omega), if_pos (show (m : Int) < l.length by omega), rd74 l m hm, Nat.add_sub_cancel, g74_eq l m hm, decide_eq_false h0, Bool.false_or]
            have h4 := hj (!(Op.bytesLess l[m].f0.toList l[m + 1].f0.toList))
            cases h3 : Op.bytesLess l[m].f0.toList l[m + 1].f0.toList with
            | true => rw [h3] at h4; simpa only [Bool.not_true, Bool.false_eq_true, if_false, if_true, h3] using h4
            | false => rw [h3] at h4; simpa only [Bool.not_false, Bool.false_eq_true, if_false, if_true, h3] using h4
      · simp only [if_neg h2]; exact Ev.now _
    · simp only [if_neg h1]; exact Ev.now _
def chunkE (a : Int) (l : List S74) : Int := if 0 ≤ a ∧ a < 4096 ∧ l.length ≤ 16 then chE l l.length 0 else 32
theorem checkChunk_ev (a : Int) (l : List S74) (b : Bool) : Ev (fun k => record_CheckChunk.f k a l b) (chunkE a l) := by
  unfold record_CheckChunk.f chunkE
  have hbad : Ev (fun k => record_CheckChunk.j0 k true a l b) 32 := Ev.step (f := fun _ => some 32) (fun k => by simp only [record_CheckChunk.j0, if_true]) (Ev.now _)
  by_cases h1 : a < 0
  · simp only [if_pos h1]; rw [if_neg (by omega)]; exact hbad
  · simp only [if_neg h1]
    by_cases h2 : a ≥ 4096
    · simp only [if_pos h2]; rw [if_neg (by omega)]; exact hbad
    · simp only [if_neg h2]
      by_cases h3 : l.length ≤ 16
      · rw [if_pos (by omega), decide_eq_false (show ¬ (l.length : Int) > 16 by omega)]
        exact Ev.step (f := fun k => record_CheckChunk.l0 k l (l.length : Int) ((0 : Nat) : Int) a l b) (fun k => by simp only [record_CheckChunk.j0, Bool.false_eq_true, if_false]; rfl) (chunk_loop a b l (by omega) l.length 0 (by omega))
      · rw [if_neg (by omega), decide_eq_true (show (l.length : Int) > 16 by omega)]
        exact hbad
theorem checkChunkR_ev (a : Int) (l : List S74) (b : Bool) : Ev (fun k => cressetref03_CheckChunk.f k a l b) (chunkE a l) := by
  unfold cressetref03_CheckChunk.f chunkE
  have hbad : Ev (fun k => cressetref03_CheckChunk.j0 k true a l b) 32 := Ev.step (f := fun _ => some 32) (fun k => by simp only [cressetref03_CheckChunk.j0, if_true]) (Ev.now _)
  by_cases h1 : a < 0
  · simp only [if_pos h1]; rw [if_neg (by omega)]; exact hbad
  · simp only [if_neg h1]
    by_cases h2 : a ≥ 4096
    · simp only [if_pos h2]; rw [if_neg (by omega)]; exact hbad
    · simp only [if_neg h2]
      by_cases h3 : l.length ≤ 16
      · rw [if_pos (by omega), decide_eq_false (show ¬ (l.length : Int) > 16 by omega)]
        exact Ev.step (f := fun k => cressetref03_CheckChunk.l0 k ((0 : Nat) : Int) a l b) (fun k => by simp only [cressetref03_CheckChunk.j0, Bool.false_eq_true, if_false]; rfl) (chunkR_loop a b l (by omega) l.length 0 (by omega))
      · rw [if_neg (by omega), decide_eq_true (show (l.length : Int) > 16 by omega)]
        exact hbad
def ntE (a : Int) : Bool := decide (a ≥ 0) && decide (a ≤ 1099511627776)
theorem stamp0_eq (a : Int) : record_stamp.f a 0 = some (ntE a) := by
  unfold record_stamp.f ntE
  by_cases h : a ≥ 0
  · rw [if_pos h, decide_eq_true h, Bool.true_and]
  · rw [if_neg h, decide_eq_false h, Bool.false_and]
theorem nought_eq (a : Int) : cressetref03_nought.f a = some (ntE a) := by
  unfold cressetref03_nought.f ntE
  by_cases h : a ≥ 0
  · rw [if_pos h, decide_eq_true h, Bool.true_and]
  · rw [if_neg h, decide_eq_false h, Bool.false_and]
def masterE (a b c d e f g h : Int) : Int := if tsE a = true ∧ (b = 0 ∨ b = 1) ∧ 1 ≤ c ∧ c ≤ 4096 ∧ ntE d = true ∧ ntE e = true ∧ 0 ≤ f ∧ f < 512 ∧ ntE g = true ∧ ntE h = true then 0 else 32
theorem stampB_ts (n : Int) : stampB n 1 = tsE n := by
  have h1 := stampB_eq n 1
  rw [stamp_eq] at h1
  exact (Option.some.inj h1).symm
theorem stampB_nt (n : Int) : stampB n 0 = ntE n := by
  have h1 := stampB_eq n 0
  rw [stamp0_eq] at h1
  exact (Option.some.inj h1).symm
theorem checkMaster_eq (a b c d e f g h : Int) : record_CheckMaster.f a b c d e f g h = some (masterE a b c d e f g h) := by
  unfold record_CheckMaster.f masterE
  simp only [stampB_ts, stampB_nt]
  cases tsE a <;> cases ntE d <;> cases ntE e <;> cases ntE g <;> cases ntE h <;> simp <;> (repeat' split) <;> first | rfl | omega | (simp; omega) | simp_all
theorem checkMasterR_ev (a b c d e f g h : Int) : Ev (fun k => cressetref03_CheckMaster.f k a b c d e f g h) (masterE a b c d e f g h) := by
  have hj : ∀ x : Bool, Ev (fun k => cressetref03_CheckMaster.j0 k x a b c d e f g h) (if x = false ∧ ntE e = true ∧ 0 ≤ f ∧ f < 512 ∧ ntE g = true ∧ ntE h = true then 0 else 32) := by
    intro x
    refine Ev.step (f := fun _ => some (if x = false ∧ ntE e = true ∧ 0 ≤ f ∧ f < 512 ∧ ntE g = true ∧ ntE h = true then 0 else 32)) (fun k => ?_) (Ev.now _)
    simp only [cressetref03_CheckMaster.j0, nought_eq, Option.bind_some]
    cases x <;> cases ntE e <;> cases ntE g <;> cases ntE h <;> simp <;> (repeat' split) <;> first | rfl | omega | (simp; omega) | simp_all
  unfold cressetref03_CheckMaster.f masterE
  simp only [stampR_eq, nought_eq, Option.bind_some]
  have hbad := hj true
  rw [if_neg (by simp)] at hbad
  by_cases h1 : tsE a = true
  · simp only [if_pos h1]
    by_cases h2 : b < 0
    · simp only [if_pos h2]; rw [if_neg (by omega)]; exact hbad
    · simp only [if_neg h2]
      by_cases h3 : b > 1
      · simp only [if_pos h3]; rw [if_neg (by omega)]; exact hbad
      · simp only [if_neg h3]
        by_cases h4 : c < 1
        · simp only [if_pos h4]; rw [if_neg (by omega)]; exact hbad
        · simp only [if_neg h4]
          by_cases h5 : c > 4096
          · simp only [if_pos h5]; rw [if_neg (by omega)]; exact hbad
          · simp only [if_neg h5]
            have := hj (!ntE d)
            have e : ((!ntE d) = false ∧ ntE e = true ∧ 0 ≤ f ∧ f < 512 ∧ ntE g = true ∧ ntE h = true) ↔ (tsE a = true ∧ (b = 0 ∨ b = 1) ∧ 1 ≤ c ∧ c ≤ 4096 ∧ ntE d = true ∧ ntE e = true ∧ 0 ≤ f ∧ f < 512 ∧ ntE g = true ∧ ntE h = true) := by
              rw [Bool.not_eq_false']
              constructor
              · rintro ⟨x1, x2, x3, x4, x5, x6⟩; exact ⟨h1, by omega, by omega, by omega, x1, x2, x3, x4, x5, x6⟩
              · rintro ⟨_, _, _, _, x1, x2, x3, x4, x5, x6⟩; exact ⟨x1, x2, x3, x4, x5, x6⟩
            simp only [e] at this
            exact this
  · simp only [if_neg h1]; rw [if_neg (fun h => h1 h.1)]; exact hbad
theorem live_ev : Ev (fun k => cressetlaw03_live.f k) true := Ev.of cressetlaw03_live.mono (k := 20) (by decide +kernel)
end Go.Proofs.Ytkcdmoghnoodmaa.Lib

/-
Of the row RecordReads: printed walks and plain laws, merged (wip/claim2.py).
-/
import Derived.Test.YtkcdmoghnoodmaaQRecordReads3
import Derived.Test.YtkcdmoghnoodmaaQRecordReads4
import Derived.Test.YtkcdmoghnoodmaaQRecordReads5
import Derived.Test.YtkcdmoghnoodmaaQRecordReads6
import Derived.Handy
namespace Go.Proofs.Ytkcdmoghnoodmaa.B
open Go.RowKit Go.Proofs.YtkcdmoghnoodmaaW.PrintWords Go.Proofs.YtkcdmoghnoodmaaW.PrintLast Go.Proofs.YtkcdmoghnoodmaaW.PrintMore Go.Proofs.YtkcdmoghnoodmaaW.Mine
attribute [local go_sem] max2_int min2_int max_two min_two max_three min_three max_four min_four str_gtr str_leq str_geq str_max str_min
set_option linter.unusedVariables false
set_option linter.unusedSimpArgs false

def record_reader_ends_commit.f (k : Nat) (s0_0 : List Int) (s0_1 : Int) (s0_2 : Int) (a1_0 : Int) (l1_1 : List (S33)) : Option (Int × Int × Int) := if s0_2 = 0 then (if s0_1 < (s0_0.length : Int) then (if 13 = 0 then ((record_commit_check.f k a1_0 l1_1).bind fun t303 => (some (t303, s0_1, t303))) else (some (13, s0_1, 13))) else ((record_commit_check.f k a1_0 l1_1).bind fun t304 => (some (t304, s0_1, t304)))) else (some (s0_2, s0_1, s0_2))
set_option maxHeartbeats 8000000 in
set_option maxRecDepth 100000 in
theorem record_reader_ends_commit.calls (k : Nat) (g : Nat) (s0_0 : List Int) (s0_1 : Int) (s0_2 : Int) (a1_0 : Int) (A1_1 : Option Addr) (c1_1 : Nat) (l1_1 : List (S33)) (r1 : Int) (r2 : Int) (r3 : Int) (w0 w : World) (hI : IsS87 w0 w g s0_0 s0_1 s0_2) (hB : Below w0.heap.size w0 w) (hr1_1 : ∀ W_, KeepBut w W_ g none → Kd.C k33 W_ A1_1 l1_1.length l1_1) (hc1_1 : l1_1.length ≤ c1_1) (h : record_reader_ends_commit.f k s0_0 s0_1 s0_2 a1_0 l1_1 = some (r1, r2, r3)) :
    Calls Try.prog 58 #[.pointer (some ⟨g, 0, none⟩), .iface 77 (.agg #[.int .i64 a1_0, .slice A1_1 l1_1.length c1_1])] w fun e w' => e = .returned (.int .i64 r1) ∧ IsS87 w0 w' g s0_0 r2 r3 ∧ Below w0.heap.size w0 w' ∧ KeepBut w w' g none := by
  have HR1_1 := Aside0.mk hr1_1
  have HC1_1 := Aside0.mk hc1_1
  clear hr1_1 hc1_1
  have HI0 := Aside0.mk hI
  have HK := Aside0.mk (KeepBut.refl w g none)
  have HL := Aside0.mk hB.size
  clear hI
  have HW0 := Aside0.mk hB.size
  have HBW := Aside0.mk hB
  have HB := Aside0.mk hB
  clear hB
  have H : (if s0_2 = 0 then (if s0_1 < (s0_0.length : Int) then (if 13 = 0 then ((record_commit_check.f k a1_0 l1_1).bind fun t303 => (some (t303, s0_1, t303))) else (some (13, s0_1, 13))) else ((record_commit_check.f k a1_0 l1_1).bind fun t304 => (some (t304, s0_1, t304)))) else (some (s0_2, s0_1, s0_2))) = some (r1, r2, r3) := h
  clear h
  by_cases c3 : s0_2 = 0
  · rw [if_pos c3] at H
    have c3b0 : (s0_2 == 0) = true := beq_iff_eq.mpr c3
    have c3b1 : (s0_2 != 0) = false := bne_eq_false_iff_eq.mpr c3
    clear c3
    by_cases c4 : s0_1 < (s0_0.length : Int)
    · rw [if_pos c4] at H
      have c4b0 : decide (s0_1 < (s0_0.length : Int)) = true := decide_eq_true c4
      clear c4
      have H1 : (some (13, s0_1, 13)) = some (r1, r2, r3) := by rw [if_neg (show ¬ (13 = 0) by decide)] at H; first | done | exact H
      clear H
      have H := H1
      clear H1
      simp only [Option.some.injEq, Prod.mk.injEq] at H
      obtain ⟨rfl, rfl, rfl⟩ := H
      obtain ⟨ASz5_0, cSz5_0, HGz5, hgz5, HSz5_0⟩ := HI0.out
      have hcz5_0 := cellS87_0 HGz5
      have hcz5_1 := cellS87_1 HGz5
      have hcz5_2 := cellS87_2 HGz5
      have hfz5_1 := blk_frozen HGz5 1
      have hfz5_2 := blk_frozen HGz5 2
      clear HGz5 hgz5
      go_enter Try.func58, Try.ntmps58
      go_wp2
      repeat (go_quiet (fail); try go_wp2)
      go_ret
      exact ⟨by first | rfl | (simp [errW_none, errW_some] <;> rfl) | (simp [*, errW_none, errW_some] <;> rfl), by repeat (first | (with_reducible first | exact HI0.out | apply IsS87.alloc | apply IsS87.drewN | apply IsS87.drew | apply IsS87.set_1 | apply IsS87.set_2) | exact HI0.out), by repeat (first | (with_reducible first | exact HB.out | apply below_alloc | apply pw_below_drewN | apply below_drew1 | refine below_set ?_ (IsS87.ge HI0.out)) | exact HB.out), by repeat (first | (with_reducible first | exact HK.out | apply KeepBut.set_ | apply keep_drewN | apply keep_drew | apply keep_alloc) | exact HK.out)⟩
    · rw [if_neg c4] at H
      have c4b0 : decide (s0_1 < (s0_0.length : Int)) = false := decide_eq_false c4
      clear c4
      replace H := Option.bind_eq_some_iff.mp H
      obtain ⟨t304, A60, H⟩ := H
      replace H : (some (t304, s0_1, t304)) = some (r1, r2, r3) := H
      have A6 := Aside0.mk A60
      clear A60
      simp only [Option.some.injEq, Prod.mk.injEq] at H
      obtain ⟨rfl, rfl, rfl⟩ := H
      obtain ⟨ASz7_0, cSz7_0, HGz7, hgz7, HSz7_0⟩ := HI0.out
      have hcz7_0 := cellS87_0 HGz7
      have hcz7_1 := cellS87_1 HGz7
      have hcz7_2 := cellS87_2 HGz7
      have hfz7_1 := blk_frozen HGz7 1
      have hfz7_2 := blk_frozen HGz7 2
      clear HGz7 hgz7
      go_enter Try.func58, Try.ntmps58
      go_wp2_with (first | (go_at_call 106; (with_reducible refine (record_commit_check.calls k a1_0 _ _ l1_1 t304 _ ?side1 ?side2 A6.out).mono ?_); (case side1 => exact Kd.C_foot_now HR1_1.out (by repeat (first | (with_reducible first | exact HK.out | apply KeepBut.set_ | apply keep_drewN | apply keep_drew | apply keep_alloc) | exact HK.out))); (case side2 => exact HC1_1.out); rintro e w8 ⟨rfl, hb⟩; have n0_ := Aside0.mk (IsS87.below (by repeat (first | (with_reducible first | exact HI0.out | apply IsS87.alloc | apply IsS87.drewN | apply IsS87.drew | apply IsS87.set_1 | apply IsS87.set_2) | exact HI0.out)) hb); have n1_ := Aside0.mk (KeepBut.trans (by repeat (first | (with_reducible first | exact HK.out | apply KeepBut.set_ | apply keep_drewN | apply keep_drew | apply keep_alloc) | exact HK.out)) (KeepBut.of_below hb g none) (.inl rfl)); have n2_ := Aside0.mk (below_step (by repeat (first | (with_reducible first | exact HB.out | apply below_alloc | apply pw_below_drewN | apply below_drew1 | refine below_set ?_ (IsS87.ge HI0.out)) | exact HB.out)) hb); clear HI0; clear HK; clear HB; have HI0 := n0_; have HK := n1_; have HB := n2_; clear n0_ n1_ n2_; (try clear hb); (try clear hb2); (try clear hk); (try clear hi); obtain ⟨ASz9_0, cSz9_0, HGz9, hgz9, HSz9_0⟩ := HI0.out; have hcz9_0 := cellS87_0 HGz9; have hcz9_1 := cellS87_1 HGz9; have hcz9_2 := cellS87_2 HGz9; have hfz9_1 := blk_frozen HGz9 1; have hfz9_2 := blk_frozen HGz9 2; clear HGz9 hgz9))
      repeat (go_quiet (first | (go_at_call 106; (with_reducible refine (record_commit_check.calls k a1_0 _ _ l1_1 t304 _ ?side1 ?side2 A6.out).mono ?_); (case side1 => exact Kd.C_foot_now HR1_1.out (by repeat (first | (with_reducible first | exact HK.out | apply KeepBut.set_ | apply keep_drewN | apply keep_drew | apply keep_alloc) | exact HK.out))); (case side2 => exact HC1_1.out); rintro e w8 ⟨rfl, hb⟩; have n0_ := Aside0.mk (IsS87.below (by repeat (first | (with_reducible first | exact HI0.out | apply IsS87.alloc | apply IsS87.drewN | apply IsS87.drew | apply IsS87.set_1 | apply IsS87.set_2) | exact HI0.out)) hb); have n1_ := Aside0.mk (KeepBut.trans (by repeat (first | (with_reducible first | exact HK.out | apply KeepBut.set_ | apply keep_drewN | apply keep_drew | apply keep_alloc) | exact HK.out)) (KeepBut.of_below hb g none) (.inl rfl)); have n2_ := Aside0.mk (below_step (by repeat (first | (with_reducible first | exact HB.out | apply below_alloc | apply pw_below_drewN | apply below_drew1 | refine below_set ?_ (IsS87.ge HI0.out)) | exact HB.out)) hb); clear HI0; clear HK; clear HB; have HI0 := n0_; have HK := n1_; have HB := n2_; clear n0_ n1_ n2_; (try clear hb); (try clear hb2); (try clear hk); (try clear hi); obtain ⟨ASz9_0, cSz9_0, HGz9, hgz9, HSz9_0⟩ := HI0.out; have hcz9_0 := cellS87_0 HGz9; have hcz9_1 := cellS87_1 HGz9; have hcz9_2 := cellS87_2 HGz9; have hfz9_1 := blk_frozen HGz9 1; have hfz9_2 := blk_frozen HGz9 2; clear HGz9 hgz9)); try go_wp2_with (first | (go_at_call 106; (with_reducible refine (record_commit_check.calls k a1_0 _ _ l1_1 t304 _ ?side1 ?side2 A6.out).mono ?_); (case side1 => exact Kd.C_foot_now HR1_1.out (by repeat (first | (with_reducible first | exact HK.out | apply KeepBut.set_ | apply keep_drewN | apply keep_drew | apply keep_alloc) | exact HK.out))); (case side2 => exact HC1_1.out); rintro e w8 ⟨rfl, hb⟩; have n0_ := Aside0.mk (IsS87.below (by repeat (first | (with_reducible first | exact HI0.out | apply IsS87.alloc | apply IsS87.drewN | apply IsS87.drew | apply IsS87.set_1 | apply IsS87.set_2) | exact HI0.out)) hb); have n1_ := Aside0.mk (KeepBut.trans (by repeat (first | (with_reducible first | exact HK.out | apply KeepBut.set_ | apply keep_drewN | apply keep_drew | apply keep_alloc) | exact HK.out)) (KeepBut.of_below hb g none) (.inl rfl)); have n2_ := Aside0.mk (below_step (by repeat (first | (with_reducible first | exact HB.out | apply below_alloc | apply pw_below_drewN | apply below_drew1 | refine below_set ?_ (IsS87.ge HI0.out)) | exact HB.out)) hb); clear HI0; clear HK; clear HB; have HI0 := n0_; have HK := n1_; have HB := n2_; clear n0_ n1_ n2_; (try clear hb); (try clear hb2); (try clear hk); (try clear hi); obtain ⟨ASz9_0, cSz9_0, HGz9, hgz9, HSz9_0⟩ := HI0.out; have hcz9_0 := cellS87_0 HGz9; have hcz9_1 := cellS87_1 HGz9; have hcz9_2 := cellS87_2 HGz9; have hfz9_1 := blk_frozen HGz9 1; have hfz9_2 := blk_frozen HGz9 2; clear HGz9 hgz9)))
      go_ret
      exact ⟨by first | rfl | (simp [errW_none, errW_some] <;> rfl) | (simp [*, errW_none, errW_some] <;> rfl), by repeat (first | (with_reducible first | exact HI0.out | apply IsS87.alloc | apply IsS87.drewN | apply IsS87.drew | apply IsS87.set_1 | apply IsS87.set_2) | exact HI0.out), by repeat (first | (with_reducible first | exact HB.out | apply below_alloc | apply pw_below_drewN | apply below_drew1 | refine below_set ?_ (IsS87.ge HI0.out)) | exact HB.out), by repeat (first | (with_reducible first | exact HK.out | apply KeepBut.set_ | apply keep_drewN | apply keep_drew | apply keep_alloc) | exact HK.out)⟩
  · rw [if_neg c3] at H
    have c3b0 : (s0_2 == 0) = false := beq_eq_false_iff_ne.mpr c3
    have c3b1 : (s0_2 != 0) = true := bne_iff_ne.mpr c3
    simp only [Option.some.injEq, Prod.mk.injEq] at H
    obtain ⟨rfl, rfl, rfl⟩ := H
    obtain ⟨ASz10_0, cSz10_0, HGz10, hgz10, HSz10_0⟩ := HI0.out
    have hcz10_0 := cellS87_0 HGz10
    have hcz10_1 := cellS87_1 HGz10
    have hcz10_2 := cellS87_2 HGz10
    have hfz10_1 := blk_frozen HGz10 1
    have hfz10_2 := blk_frozen HGz10 2
    clear HGz10 hgz10
    go_enter Try.func58, Try.ntmps58
    go_wp2
    repeat (go_quiet (fail); try go_wp2)
    go_ret
    exact ⟨by first | rfl | (simp [errW_none, errW_some] <;> rfl) | (simp [*, errW_none, errW_some] <;> rfl), by repeat (first | (with_reducible first | exact HI0.out | apply IsS87.alloc | apply IsS87.drewN | apply IsS87.drew | apply IsS87.set_1 | apply IsS87.set_2) | exact HI0.out), by repeat (first | (with_reducible first | exact HB.out | apply below_alloc | apply pw_below_drewN | apply below_drew1 | refine below_set ?_ (IsS87.ge HI0.out)) | exact HB.out), by repeat (first | (with_reducible first | exact HK.out | apply KeepBut.set_ | apply keep_drewN | apply keep_drew | apply keep_alloc) | exact HK.out)⟩

def record_reader_mk.f (l0 : List Int) : Option (List Int × Int × Int) := some (l0, 0, 0)
def record_TakeCommit.l0 : Nat → Int → Int → List Int → Int → Int → Int → List (S33) → Option (Int × (List (S33)) × Int)
  | 0, _, _, _, _, _, _, _ => none
  | k + 1, x14, x15, x314000, x314001, x314002, x318000, x318001 => if x15 < x14 then ((record_reader_write.f k x314000 x314001 x314002).bind fun bt321 => (if x318001.length < 3518437208883 then (record_TakeCommit.l0 k x14 (wrap64 (x15 + 1)) x314000 bt321.2.2.2.1 bt321.2.2.2.2 x318000 (x318001 ++ [(⟨bt321.1, bt321.2.1, bt321.2.2.1⟩ : S33)])) else (none))) else ((record_reader_ends_commit.f k x314000 x314001 x314002 x318000 x318001).bind fun bt329 => (if bt329.1 = 0 then (some (x318000, x318001, 0)) else (some (0, ([] : List (S33)), bt329.1))))
def record_TakeCommit.f (k : Nat) (l0 : List Int) : Option (Int × (List (S33)) × Int) := (record_reader_mk.f l0).bind fun bt310 => ((record_reader_num.f k bt310.1 bt310.2.1 bt310.2.2).bind fun bt314 => ((record_reader_many.f k bt310.1 bt314.2.1 bt314.2.2 64).bind fun bt318 => (record_TakeCommit.l0 k bt318.1 0 bt310.1 bt318.2.1 bt318.2.2 bt314.1 ([] : List (S33)))))
def record_TakeCommit.T5 : Bool × List (List Nat × List Nat) := (true, [([], []), ([0], [0]), ([], []), ([2], [2]), ([3], [3]), ([1, 4, 3], [1, 4]), ([0, 1, 2, 3, 4, 5], []), ([6, 5, 5, 0, 1, 2, 3, 4, 5], [5, 6])])
def record_TakeCommit.B5 : List Nat := [0, 1, 0, 4, 12, 31, 63, 127]
theorem record_TakeCommit.tab5 : rtab .any (opsOf Try.f31 5) = record_TakeCommit.T5 := by kernel_rfl
theorem record_TakeCommit.bits5 : waitsOk record_TakeCommit.T5.2 record_TakeCommit.B5 = true := by kernel_rfl
set_option maxHeartbeats 8000000 in
set_option maxRecDepth 100000 in
theorem record_TakeCommit.calls (k : Nat) (A0 : Option Addr) (c0 : Nat) (l0 : List Int) (r1 : Int) (r2 : List (S33)) (r3 : Int) (w : World) (hr0 : Kd.C (Kd.int .u8) w A0 l0.length l0) (hc0 : l0.length ≤ c0) (h : record_TakeCommit.f k l0 = some (r1, r2, r3)) :
    Calls Try.prog 31 #[.slice A0 l0.length c0] w fun e w' => ∃ v1_ : Value, e = .returned (.tuple #[.agg #[.int .i64 r1, v1_], .int .i64 r3]) ∧ Kd.R k33 33 w' w.heap.size (fun _ => True) v1_ r2 ∧ Below w.heap.size w w' := by
  have hu24 := Try.underlying24
  have hu77 := Try.underlying77
  have HR0 := Aside0.mk hr0
  have HC0 := Aside0.mk hc0
  clear hr0 hc0
  have HB := Aside0.mk (Below.refl w.heap.size w)
  have H : ((record_reader_mk.f l0).bind fun bt310 => ((record_reader_num.f k bt310.1 bt310.2.1 bt310.2.2).bind fun bt314 => ((record_reader_many.f k bt310.1 bt314.2.1 bt314.2.2 64).bind fun bt318 => (record_TakeCommit.l0 k bt318.1 0 bt310.1 bt318.2.1 bt318.2.2 bt314.1 ([] : List (S33)))))) = some (r1, r2, r3) := h
  clear h
  replace H := Option.bind_eq_some_iff.mp H
  obtain ⟨⟨t310, t311, t312⟩, A20, H⟩ := H
  replace H : ((record_reader_num.f k t310 t311 t312).bind fun bt314 => ((record_reader_many.f k t310 bt314.2.1 bt314.2.2 64).bind fun bt318 => (record_TakeCommit.l0 k bt318.1 0 t310 bt318.2.1 bt318.2.2 bt314.1 ([] : List (S33))))) = some (r1, r2, r3) := H
  have A2 := Aside0.mk A20
  clear A20
  replace H := Option.bind_eq_some_iff.mp H
  obtain ⟨⟨t314, t315, t316⟩, A30, H⟩ := H
  replace H : ((record_reader_many.f k t310 t315 t316 64).bind fun bt318 => (record_TakeCommit.l0 k bt318.1 0 t310 bt318.2.1 bt318.2.2 t314 ([] : List (S33)))) = some (r1, r2, r3) := H
  have A3 := Aside0.mk A30
  clear A30
  replace H := Option.bind_eq_some_iff.mp H
  obtain ⟨⟨t318, t319, t320⟩, A40, H⟩ := H
  replace H : (record_TakeCommit.l0 k t318 0 t310 t319 t320 t314 ([] : List (S33))) = some (r1, r2, r3) := H
  have A4 := Aside0.mk A40
  clear A40
  have H' := Aside0.mk H
  clear H
  go_enter Try.func31, Try.ntmps31
  go_wp2_with (first | ((with_reducible refine gate_dst (N := 2) rfl ?_); refine box_event ?hg (N := 2) ?hd (cs := #[.int .i64 0, .slice none 0 0]) (t := 24) ?hr ?_; (case hd => rfl); (case hg => rfl); (case hr => first | (go_simp; done) | (go_simp; rfl)); intro gb309 hg w5 hbox hb; have n0_ := Aside0.mk (below_step (by repeat (first | (with_reducible first | exact HB.out | apply below_alloc | apply pw_below_drewN | apply below_drew1) | exact HB.out)) hb); have n1_ := Aside0.mk (hbox); have n2_ := Aside0.mk ((by rw [hg]; exact (below_size (by repeat (first | (with_reducible first | exact HB.out | apply below_alloc | apply pw_below_drewN | apply below_drew1) | exact HB.out))) : w.heap.size ≤ gb309)); have n3_ := Aside0.mk ((by rw [hg]; exact (below_size (by repeat (first | (with_reducible first | exact HB.out | apply below_alloc | apply pw_below_drewN | apply below_drew1) | exact HB.out))) : w.heap.size ≤ gb309)); clear HB; have HB := n0_; have BK309 := n1_; have GW309 := n2_; have GE309 := n3_; clear n0_ n1_ n2_ n3_; clear hb hbox hg) | ((with_reducible refine gate_dst (N := 9) rfl ?_); refine box_event ?hg (N := 9) ?hd (cs := #[.slice A0 l0.length c0, .int .i64 0, .int .i64 0]) (t := 87) ?hr ?_; (case hd => rfl); (case hg => rfl); (case hr => first | (go_simp; done) | (go_simp; rfl)); intro g313 hgq_ w6 hbox_ hb2; (have hm_ := A2.out; simp only [record_reader_mk.f, Option.some.injEq, Prod.mk.injEq] at hm_); obtain ⟨e1_, e2_, e3_⟩ := hm_; have hb := below_step (by repeat (first | (with_reducible first | exact HB.out | apply below_alloc | apply pw_below_drewN | apply below_drew1 | refine below_set ?_ GE309.out) | exact HB.out)) hb2; have hi : IsS87 w w6 g313 t310 t311 t312 := (by rw [← e1_, ← e2_, ← e3_]; exact ⟨_, _, hbox_, by rw [hgq_]; exact below_size (by repeat (first | (with_reducible first | exact HB.out | apply below_alloc | apply pw_below_drewN | apply below_drew1 | refine below_set ?_ GE309.out) | exact HB.out)), HR0.out, HC0.out⟩); clear e1_ e2_ e3_ hbox_ hgq_; have n0_ := Aside0.mk (blk_below (g := gb309) (o := .cells #[.int .i64 0, .slice none 0 0] 24 (0, 0)) (by (with_reducible repeat (first | refine blk_drewN ?_ _ | refine blk_drew ?_ | refine blk_alloc ?_ _)); exact BK309.out) hb2); have n1_ := Aside0.mk (hb); have n2_ := Aside0.mk (hi); have n3_ := Aside0.mk (IsS87.ne_blk hi (blk_below (g := gb309) (o := .cells #[.int .i64 0, .slice none 0 0] 24 (0, 0)) (by (with_reducible repeat (first | refine blk_drewN ?_ _ | refine blk_drew ?_ | refine blk_alloc ?_ _)); exact BK309.out) hb2) (by decide)); have n4_ := Aside0.mk (Ne.symm (IsS87.ne_blk hi (blk_below (g := gb309) (o := .cells #[.int .i64 0, .slice none 0 0] 24 (0, 0)) (by (with_reducible repeat (first | refine blk_drewN ?_ _ | refine blk_drew ?_ | refine blk_alloc ?_ _)); exact BK309.out) hb2) (by decide))); clear BK309; clear HB; have BK309 := n0_; have HB := n1_; have HI313 := n2_; have NB313_309 := n3_; have NB309_313 := n4_; clear n0_ n1_ n2_ n3_ n4_; (try clear hb); (try clear hb2); (try clear hk); (try clear hi)) | ((with_reducible refine gate_callee (f := 55) rfl ?_); refine goesL_ (some 11) rfl rfl Try.func55 (by kernel_rfl) rfl #[.pointer (some ⟨g313, 0, none⟩)] rfl (by (try simp only [List.map_toArray, List.map_cons, List.map_nil]); first | done | rfl | (simp only [List.length_drop, List.length_take]; rfl)) ?_; (with_reducible refine (record_reader_num.calls k g313 t310 t311 t312 t314 t315 t316 w _ ?side1 ?side2 A3.out).mono ?_); (case side1 => repeat (first | (with_reducible first | exact HI313.out | apply IsS87.alloc | apply IsS87.drewN | apply IsS87.drew | apply IsS87.set_1 | apply IsS87.set_2 | refine IsS87.far ?_ NB313_309.out _) | exact HI313.out)); (case side2 => repeat (first | (with_reducible first | exact HB.out | apply below_alloc | apply pw_below_drewN | apply below_drew1 | refine below_set ?_ (IsS87.ge HI313.out) | refine below_set ?_ GE309.out) | exact HB.out)); rintro e w7 ⟨rfl, hi, hb, hk⟩; refine ⟨_, rfl, ?_⟩; have n0_ := Aside0.mk (KeepBut.blk hk (g' := gb309) (o := .cells #[.int .i64 0, .slice none 0 0] 24 (0, 0)) (by (with_reducible repeat (first | refine blk_drewN ?_ _ | refine blk_drew ?_ | refine blk_alloc ?_ _)); exact BK309.out) NB309_313.out (by simp)); have n1_ := Aside0.mk (hb); have n2_ := Aside0.mk (hi); clear BK309; clear HB; clear HI313; have BK309 := n0_; have HB := n1_; have HI313 := n2_; clear n0_ n1_ n2_; (try clear hb); (try clear hb2); (try clear hk); (try clear hi)) | ((with_reducible refine gate_dst (N := 5) rfl ?_); refine box_event ?hg (N := 5) ?hd (cs := #[.int .i64 0, .slice none 0 0]) (t := 24) ?hr ?_; (case hd => rfl); (case hg => rfl); (case hr => first | (go_simp; done) | (go_simp; rfl)); intro gb317 hg w8 hbox hb; have n0_ := Aside0.mk (blk_below (g := gb309) (o := .cells #[.int .i64 0, .slice none 0 0] 24 (0, 0)) (by (with_reducible repeat (first | refine blk_drewN ?_ _ | refine blk_drew ?_ | refine blk_alloc ?_ _)); exact BK309.out) hb); have n1_ := Aside0.mk (IsS87.below (by repeat (first | (with_reducible first | exact HI313.out | apply IsS87.alloc | apply IsS87.drewN | apply IsS87.drew | apply IsS87.set_1 | apply IsS87.set_2 | refine IsS87.far ?_ NB313_309.out _) | exact HI313.out)) hb); have n2_ := Aside0.mk (below_step (by repeat (first | (with_reducible first | exact HB.out | apply below_alloc | apply pw_below_drewN | apply below_drew1 | refine below_set ?_ (IsS87.ge HI313.out) | refine below_set ?_ GE309.out) | exact HB.out)) hb); have n3_ := Aside0.mk (hbox); have n4_ := Aside0.mk ((by rw [hg]; exact (below_size (by repeat (first | (with_reducible first | exact HB.out | apply below_alloc | apply pw_below_drewN | apply below_drew1 | refine below_set ?_ (IsS87.ge HI313.out) | refine below_set ?_ GE309.out) | exact HB.out))) : w.heap.size ≤ gb317)); have n5_ := Aside0.mk ((by rw [hg]; exact (below_size (by repeat (first | (with_reducible first | exact HB.out | apply below_alloc | apply pw_below_drewN | apply below_drew1 | refine below_set ?_ (IsS87.ge HI313.out) | refine below_set ?_ GE309.out) | exact HB.out))) : w.heap.size ≤ gb317)); have n6_ := Aside0.mk ((by rw [hg]; exact Nat.ne_of_lt (blk_lt (g := gb309) (o := .cells #[.int .i64 0, .slice none 0 0] 24 (0, 0)) (by (with_reducible repeat (first | refine blk_drewN ?_ _ | refine blk_drew ?_ | refine blk_alloc ?_ _)); exact BK309.out)) : gb309 ≠ gb317)); have n7_ := Aside0.mk ((by rw [hg]; exact Nat.ne_of_gt (blk_lt (g := gb309) (o := .cells #[.int .i64 0, .slice none 0 0] 24 (0, 0)) (by (with_reducible repeat (first | refine blk_drewN ?_ _ | refine blk_drew ?_ | refine blk_alloc ?_ _)); exact BK309.out)) : gb317 ≠ gb309)); have n8_ := Aside0.mk ((by rw [hg]; exact Nat.ne_of_lt (IsS87.lt (show IsS87 w _ g313 t310 t315 t316 from by repeat (first | (with_reducible first | exact HI313.out | apply IsS87.alloc | apply IsS87.drewN | apply IsS87.drew | apply IsS87.set_1 | apply IsS87.set_2 | refine IsS87.far ?_ NB313_309.out _) | exact HI313.out))) : g313 ≠ gb317)); have n9_ := Aside0.mk ((by rw [hg]; exact Nat.ne_of_gt (IsS87.lt (show IsS87 w _ g313 t310 t315 t316 from by repeat (first | (with_reducible first | exact HI313.out | apply IsS87.alloc | apply IsS87.drewN | apply IsS87.drew | apply IsS87.set_1 | apply IsS87.set_2 | refine IsS87.far ?_ NB313_309.out _) | exact HI313.out))) : gb317 ≠ g313)); clear BK309; clear HI313; clear HB; have BK309 := n0_; have HI313 := n1_; have HB := n2_; have BK317 := n3_; have GW317 := n4_; have GE317 := n5_; have NB309_317 := n6_; have NB317_309 := n7_; have NB313_317 := n8_; have NB317_313 := n9_; clear n0_ n1_ n2_ n3_ n4_ n5_ n6_ n7_ n8_ n9_; clear hb hbox hg; have hnb9 := NB317_309.out; have hnc9 := NB309_317.out; have hnb10 := NB317_313.out; have hnc10 := NB313_317.out; have hcz11_0 : w8.cell? ⟨gb317, 0, none⟩ = some (.int .i64 0) := (blk_cell BK317.out 0).trans rfl; have hcz11_1 : w8.cell? ⟨gb317, 1, none⟩ = some (.slice none 0 0) := (blk_cell BK317.out 1).trans rfl; have hfz11_0 := blk_frozen BK317.out 0; have hfz11_1 := blk_frozen BK317.out 1) | ((with_reducible refine gate_callee (f := 56) rfl ?_); refine goesL_ (some 14) rfl rfl Try.func56 (by kernel_rfl) rfl #[.pointer (some ⟨g313, 0, none⟩), .int .i64 64] rfl (by (try simp only [List.map_toArray, List.map_cons, List.map_nil]); first | done | rfl | (simp only [List.length_drop, List.length_take]; rfl)) ?_; (with_reducible refine (record_reader_many.calls k g313 t310 t315 t316 64 t318 t319 t320 w _ ?side1 ?side2 A4.out).mono ?_); (case side1 => repeat (first | (with_reducible first | exact HI313.out | apply IsS87.alloc | apply IsS87.drewN | apply IsS87.drew | apply IsS87.set_1 | apply IsS87.set_2 | refine IsS87.far ?_ NB313_309.out _ | refine IsS87.far ?_ NB313_317.out _) | exact HI313.out)); (case side2 => repeat (first | (with_reducible first | exact HB.out | apply below_alloc | apply pw_below_drewN | apply below_drew1 | refine below_set ?_ (IsS87.ge HI313.out) | refine below_set ?_ GE309.out | refine below_set ?_ GE317.out) | exact HB.out)); rintro e w12 ⟨rfl, hi, hb, hk⟩; refine ⟨_, rfl, ?_⟩; have n0_ := Aside0.mk (KeepBut.blk hk (g' := gb309) (o := .cells #[.int .i64 0, .slice none 0 0] 24 (0, 0)) (by (with_reducible repeat (first | refine blk_drewN ?_ _ | refine blk_drew ?_ | refine blk_alloc ?_ _)); refine blk_far ?_ NB309_317.out _; (with_reducible repeat (first | refine blk_drewN ?_ _ | refine blk_drew ?_ | refine blk_alloc ?_ _)); refine blk_far ?_ NB309_317.out _; (with_reducible repeat (first | refine blk_drewN ?_ _ | refine blk_drew ?_ | refine blk_alloc ?_ _)); exact BK309.out) NB309_313.out (by simp)); have n1_ := Aside0.mk (KeepBut.blk hk (g' := gb317) (o := .cells #[.int .i64 t314, .slice none 0 0] 24 (0, 0)) (by (with_reducible repeat (first | refine blk_drewN ?_ _ | refine blk_drew ?_ | refine blk_alloc ?_ _)); refine blk_put (cs := #[.int .i64 t314, .slice none 0 0]) ?_ 1 _ rfl; (with_reducible repeat (first | refine blk_drewN ?_ _ | refine blk_drew ?_ | refine blk_alloc ?_ _)); refine blk_put (cs := #[.int .i64 0, .slice none 0 0]) ?_ 0 _ rfl; (with_reducible repeat (first | refine blk_drewN ?_ _ | refine blk_drew ?_ | refine blk_alloc ?_ _)); exact BK317.out) NB317_313.out (by simp)); have n2_ := Aside0.mk (hb); have n3_ := Aside0.mk (hi); clear BK309; clear BK317; clear HB; clear HI313; have BK309 := n0_; have BK317 := n1_; have HB := n2_; have HI313 := n3_; clear n0_ n1_ n2_ n3_; (try clear hb); (try clear hb2); (try clear hk); (try clear hi)))
  go_loopg [15] k (fun kq v15 w' => ∃ (x15_1 : Int) (x314001_1 : Int) (x314002_1 : Int) (x318001_1 : List (S33)) (u318001 : Value), v15 = .int .i64 x15_1 ∧ Aside0 (record_TakeCommit.l0 kq t318 x15_1 t310 x314001_1 x314002_1 t314 x318001_1 = some (r1, r2, r3)) ∧ Aside0 (kq ≤ k) ∧ Aside0 (Kd.R k33 33 w' w.heap.size (fun _ => True) u318001 x318001_1) ∧ Aside0 (w'.heap[gb309]? = some (.cells #[.int .i64 0, (.slice none 0 0)] 24 (0, 0))) ∧ Aside0 (w'.heap[gb317]? = some (.cells #[.int .i64 t314, u318001] 24 (0, 0))) ∧ Aside0 (IsS87 w w' g313 t310 x314001_1 x314002_1) ∧ Aside0 (Below w.heap.size w w'))
  case atStart => exact ⟨(0), (t319), (t320), (([] : List (S33))), (.slice none 0 0), (by first | rfl | (simp; done) | (simp [*]; done)), H', ⟨Nat.le_refl _⟩, ⟨by first | exact Kd.R_nil _ _ _ _ _ | exact Kd.N_nil _ _ _ _ _ | exact Kd.V_nil _ _ _ _ _ | exact Kd.Q_nil _ _ _ _ _ | exact Kd.S_nil _ _ _ _ _⟩, ⟨by (with_reducible repeat (first | refine blk_drewN ?_ _ | refine blk_drew ?_ | refine blk_alloc ?_ _)); exact BK309.out⟩, ⟨by (with_reducible repeat (first | refine blk_drewN ?_ _ | refine blk_drew ?_ | refine blk_alloc ?_ _)); exact BK317.out⟩, ⟨by repeat (first | (with_reducible first | exact HI313.out | apply IsS87.alloc | apply IsS87.drewN | apply IsS87.drew | apply IsS87.set_1 | apply IsS87.set_2 | refine IsS87.far ?_ NB313_309.out _ | refine IsS87.far ?_ NB313_317.out _) | exact HI313.out)⟩, ⟨by repeat (first | (with_reducible first | exact HB.out | apply below_alloc | apply pw_below_drewN | apply below_drew1 | refine below_set ?_ (IsS87.ge HI313.out) | refine below_set ?_ GE309.out | refine below_set ?_ GE317.out) | exact HB.out)⟩⟩
  case round =>
    clear H'
    try clear c1
    try clear p2
    try clear c3
    try clear c5
    try clear c6
    try clear c9
    try clear c10
    try clear hcz11_0
    try clear hcz11_1
    try clear hfz11_0
    try clear hfz11_1
    obtain ⟨x15_1, x314001_1, x314002_1, x318001_1, u318001, rfl, HA, HK1, HO_318001, BK309, BK317, HI313, HB⟩ := hrel
    cases gk with
    | zero => exact absurd HA.out (by simp [record_TakeCommit.l0])
    | succ k1 =>
      have H := HA.out
      clear HA
      simp only [record_TakeCommit.l0] at H
      by_cases c13 : x15_1 < t318
      · rw [if_pos c13] at H
        have c13b0 : decide (x15_1 < t318) = true := decide_eq_true c13
        clear c13
        replace H := Option.bind_eq_some_iff.mp H
        obtain ⟨⟨t321, t322, t323, t324, t325⟩, A140, H⟩ := H
        replace H : (if x318001_1.length < 3518437208883 then (record_TakeCommit.l0 k1 t318 (wrap64 (x15_1 + 1)) t310 t324 t325 t314 (x318001_1 ++ [(⟨t321, t322, t323⟩ : S33)])) else (none)) = some (r1, r2, r3) := H
        have A14 := Aside0.mk A140
        clear A140
        by_cases c15 : x318001_1.length < 3518437208883
        · rw [if_pos c15] at H
          have LMc15 := Aside0.mk c15
          clear c15
          obtain ⟨y326, hy326⟩ : ∃ y_ : List (S33), y_ = (x318001_1 ++ [(⟨t321, t322, t323⟩ : S33)]) := ⟨_, rfl⟩
          replace H : (record_TakeCommit.l0 k1 t318 (wrap64 (x15_1 + 1)) t310 t324 t325 t314 y326) = some (r1, r2, r3) := by first | (rw [hy326]; with_reducible exact H) | (have H2_ := (Option.bind_some _ _).symm.trans H; rw [hy326]; with_reducible exact H2_) | (have H2_ := (Option.bind_some _ _).symm.trans H; with_reducible exact H2_) | with_reducible exact H | (rw [hy326]; exact H) | exact H
          have Ny326 := Aside0.mk hy326
          clear hy326
          have H' := Aside0.mk H
          clear H
          try go_wp2
          have n0_ := Aside0.mk (Kd.R_drew HO_318001.out)
          have n1_ := Aside0.mk (blk_drew BK309.out)
          have n2_ := Aside0.mk (blk_drew BK317.out)
          have n3_ := Aside0.mk (IsS87.drew HI313.out)
          have n4_ := Aside0.mk (below_drew1 HB.out)
          clear HO_318001
          clear BK309
          clear BK317
          clear HI313
          clear HB
          have HO_318001 := n0_
          have BK309 := n1_
          have BK317 := n2_
          have HI313 := n3_
          have HB := n4_
          clear n0_ n1_ n2_ n3_ n4_
          refine start_ (n := 8) (S := fun w' => w'.cell? ⟨gb317, 0, none⟩ = some (.int .i64 t314) ∧ w'.cell? ⟨gb317, 1, none⟩ = some (u318001)) (ds := [7]) #[false, false, false, false, false, false, false, false] (by kernel_rfl) rfl rfl ⟨(blk_cell BK317.out 0).trans rfl, (blk_cell BK317.out 1).trans rfl⟩ (fun hHeld => ?_); refine with_tabW record_TakeCommit.tab5 record_TakeCommit.bits5 (fun HT_ HW_ => ?_)
          generalize wr.drew = w16 at HO_318001 BK309 BK317 HI313 HB hHeld ⊢
          refine pure_ (i := 0) (N := some 17) (v := ?_) (a' := ?_) #[true, false, false, false, false, false, false, false] rfl rfl (any_of HT_.out (by kernel_rfl)) (fun _ _ _ h => h) (Or.inl ⟨by rfl, ?_⟩) ?_ ?_
          rotate_left
          · intro w'
            go_simp
            with_reducible rfl
          rotate_left
          · simp only [Act.put, List.setIfInBounds_toArray, List.set_cons_zero, List.set_cons_succ, i64_w, i32_w]
            rfl
          refine pure_ (i := 2) (N := some 19) (v := ?_) (a' := ?_) #[true, false, true, false, false, false, false, false] rfl rfl (any_of HT_.out (by kernel_rfl)) (fun _ _ _ h => h) (Or.inl ⟨by rfl, ?_⟩) ?_ ?_
          rotate_left
          · intro w'
            go_simp
            with_reducible rfl
          rotate_left
          · simp only [Act.put, List.setIfInBounds_toArray, List.set_cons_zero, List.set_cons_succ, i64_w, i32_w]
            rfl
          refine take_ (i := 1) (N := some 18) (v := ?_) (a' := ?_) #[true, true, true, false, false, false, false, false] rfl rfl (take_ofW HT_.out HW_.out (by kernel_rfl)) (fun _ _ _ h => h) (Or.inl ⟨by rfl, ?_⟩) hHeld ?_ ?_
          rotate_left
          · rintro w' ⟨s0, s1⟩
            go_simp
            with_reducible rfl
          rotate_left
          · simp only [Act.put, List.setIfInBounds_toArray, List.set_cons_zero, List.set_cons_succ, i64_w, i32_w]
            rfl
          refine one_ (i := 3) (N := some 20) #[true, true, true, true, false, false, false, false] rfl rfl (one_of HT_.out (by kernel_rfl)) (by decide) (fun K hK => ?_)
          refine goes_ Try.func57 (by kernel_rfl) rfl #[.pointer (some ⟨g313, 0, none⟩)] (by rfl) rfl rfl (by (try simp only [List.map_toArray, List.map_cons, List.map_nil]); first | done | rfl | (simp only [List.length_drop, List.length_take]; rfl)) ?_
          with_reducible refine (record_reader_write.calls k1 g313 t310 x314001_1 x314002_1 t321 t322 t323 t324 t325 w _ ?side1 ?side2 A14.out).mono ?_
          (case side1 => repeat (first | (with_reducible first | exact HI313.out | apply IsS87.alloc | apply IsS87.drewN | apply IsS87.drew | apply IsS87.set_1 | apply IsS87.set_2 | refine IsS87.far ?_ NB313_309.out _ | refine IsS87.far ?_ NB313_317.out _) | exact HI313.out))
          (case side2 => repeat (first | (with_reducible first | exact HB.out | apply below_alloc | apply pw_below_drewN | apply below_drew1 | refine below_set ?_ (IsS87.ge HI313.out) | refine below_set ?_ GE309.out | refine below_set ?_ GE317.out) | exact HB.out))
          rintro e w17 ⟨rfl, hi, hb, hk⟩
          refine ⟨_, rfl, ?_⟩
          have n0_ := Aside0.mk (Kd.R_mono (Kd.R_keep (IsS87.apart (show IsS87 w _ g313 t310 x314001_1 x314002_1 from by repeat (first | (with_reducible first | exact HI313.out | apply IsS87.alloc | apply IsS87.drewN | apply IsS87.drew | apply IsS87.set_1 | apply IsS87.set_2 | refine IsS87.far ?_ NB313_309.out _ | refine IsS87.far ?_ NB313_317.out _) | exact HI313.out)) (by (with_reducible repeat (first | apply Kd.R_alloc | apply Kd.R_drewN | apply Kd.R_drew)); exact HO_318001.out) (by decide)) hk (fun _ h => h.2)) (fun _ h => h.1))
          have n1_ := Aside0.mk (KeepBut.blk hk (g' := gb309) (o := .cells #[.int .i64 0, .slice none 0 0] 24 (0, 0)) (by (with_reducible repeat (first | refine blk_drewN ?_ _ | refine blk_drew ?_ | refine blk_alloc ?_ _)); exact BK309.out) NB309_313.out (by simp))
          have n2_ := Aside0.mk (KeepBut.blk hk (g' := gb317) (o := .cells #[.int .i64 t314, u318001] 24 (0, 0)) (by (with_reducible repeat (first | refine blk_drewN ?_ _ | refine blk_drew ?_ | refine blk_alloc ?_ _)); exact BK317.out) NB317_313.out (by simp))
          have n3_ := Aside0.mk (hb)
          have n4_ := Aside0.mk (hi)
          clear HO_318001
          clear BK309
          clear BK317
          clear HB
          clear HI313
          have HO_318001 := n0_
          have BK309 := n1_
          have BK317 := n2_
          have HB := n3_
          have HI313 := n4_
          clear n0_ n1_ n2_ n3_ n4_
          (try clear hb)
          (try clear hb2)
          (try clear hk)
          (try clear hi)
          refine hK.out _ _ ⟨(blk_cell BK317.out 0).trans rfl, (blk_cell BK317.out 1).trans rfl⟩ (fun hHeld => ?_)
          clear hK K
          refine norm_ (a' := ?_) ?_ ?_
          rotate_left
          · show Act.put _ (some 20) _ = _
            simp only [Act.put, List.setIfInBounds_toArray, List.set_cons_zero, List.set_cons_succ, i64_w, i32_w]
            rfl
          refine one_ (i := 4) (N := some 21) #[true, true, true, true, true, false, false, false] rfl rfl (one_of HT_.out (by kernel_rfl)) (by decide) (fun K hK => ?_)
          refine value_ (w1 := ?_) (v := ?_) (by rfl) rfl ?_ ?_
          rotate_left 2
          · go_simp
            constructor
            · rfl
            · rfl
          refine hK.out _ _ ⟨(blk_cell (blk_alloc BK317.out _) 0).trans rfl, (blk_cell (blk_alloc BK317.out _) 1).trans rfl⟩ (fun hHeld => ?_)
          clear hK K
          refine norm_ (a' := ?_) ?_ ?_
          rotate_left
          · show Act.put _ (some 21) _ = _
            simp only [Act.put, List.setIfInBounds_toArray, List.set_cons_zero, List.set_cons_succ, i64_w, i32_w]
            rfl
          refine one_ (i := 5) (N := some 22) #[true, true, true, true, true, true, false, false] rfl rfl (one_of HT_.out (by kernel_rfl)) (by decide) (fun K hK => ?_)
          refine Kd.R_append_step k33 (w0 := w) w.heap.size (by rfl) (.tmp 18) (.tmp 21) 22 33 (.agg #[(.string ⟨#[]⟩), (.string ⟨#[]⟩), (.bool false)]) 40 rfl Try.underlying22 info33 rfl (by decide) (by omega) u318001 x318001_1 (⟨t321, t322, t323⟩ : S33) [.string t321, .string t322, .bool t323] (fun _ => True) (fun _ => False) rfl rfl ?aP (fun _ hk => hk.elim) ?aF ?aO ?aB ?aS ?aL ?_
          (case aP => exact k33_mkM _ _ _ (⟨t321, t322, t323⟩ : S33))
          (case aB => exact (by repeat (first | (with_reducible first | exact HB.out | apply below_alloc | apply pw_below_drewN | apply below_drew1 | refine below_set ?_ (IsS87.ge HI313.out) | refine below_set ?_ GE309.out | refine below_set ?_ GE317.out) | exact HB.out)))
          (case aF => exact (fun _ _ => trivial))
          (case aO => exact (by (with_reducible repeat (first | apply Kd.R_alloc | apply Kd.R_drewN | apply Kd.R_drew)); exact HO_318001.out))
          (case aS => exact (below_size (by repeat (first | (with_reducible first | exact HB.out | apply below_alloc | apply pw_below_drewN | apply below_drew1 | refine below_set ?_ (IsS87.ge HI313.out) | refine below_set ?_ GE309.out | refine below_set ?_ GE317.out) | exact HB.out))))
          (case aL => have := LMc15.out; omega)
          intro v327 w18 ho hb hg hat
          rw [← Ny326.out] at ho
          have n0_ := Aside0.mk (blk_grown (g := gb309) (o := .cells #[.int .i64 0, .slice none 0 0] 24 (0, 0)) (by (with_reducible repeat (first | refine blk_drewN ?_ _ | refine blk_drew ?_ | refine blk_alloc ?_ _)); exact BK309.out) hg (Kd.R_ne HO_318001.out BK309.out (by decide)))
          have n1_ := Aside0.mk (blk_grown (g := gb317) (o := .cells #[.int .i64 t314, u318001] 24 (0, 0)) (by (with_reducible repeat (first | refine blk_drewN ?_ _ | refine blk_drew ?_ | refine blk_alloc ?_ _)); exact BK317.out) hg (Kd.R_ne HO_318001.out BK317.out (by decide)))
          have n2_ := Aside0.mk (IsS87.grown (by repeat (first | (with_reducible first | exact HI313.out | apply IsS87.alloc | apply IsS87.drewN | apply IsS87.drew | apply IsS87.set_1 | apply IsS87.set_2 | refine IsS87.far ?_ NB313_309.out _ | refine IsS87.far ?_ NB313_317.out _) | exact HI313.out)) hg (IsS87.own_ne HI313.out HO_318001.out (by decide)))
          have n3_ := Aside0.mk (hb)
          have n4_ := Aside0.mk (ho)
          clear BK309
          clear BK317
          clear HI313
          clear HB
          clear HO_318001
          have BK309 := n0_
          have BK317 := n1_
          have HI313 := n2_
          have HB := n3_
          have HO328 := n4_
          clear n0_ n1_ n2_ n3_ n4_
          clear ho hb hg hat
          obtain ⟨Ao19, co19, eo19⟩ := Kd.R_slice HO328.out
          (first | subst eo19 | (injection eo19 with f1_ f2_ f3_; have f4_ := f1_.symm; have f5_ := f3_.symm; clear f1_ f2_ f3_; subst f4_; subst f5_))
          refine hK.out _ _ ⟨(blk_cell BK317.out 0).trans rfl, (blk_cell BK317.out 1).trans rfl⟩ (fun hHeld => ?_)
          clear hK K
          refine norm_ (a' := ?_) ?_ ?_
          rotate_left
          · show Act.put _ (some 22) _ = _
            simp only [Act.put, List.setIfInBounds_toArray, List.set_cons_zero, List.set_cons_succ, i64_w, i32_w]
            rfl
          refine pure_ (i := 6) (N := some 23) (v := ?_) (a' := ?_) #[true, true, true, true, true, true, true, false] rfl rfl (any_of HT_.out (by kernel_rfl)) (fun _ _ _ h => h) (Or.inl ⟨by rfl, ?_⟩) ?_ ?_
          rotate_left
          · intro w'
            go_simp
            with_reducible rfl
          rotate_left
          · simp only [Act.put, List.setIfInBounds_toArray, List.set_cons_zero, List.set_cons_succ, i64_w, i32_w]
            rfl
          refine last_ (i := 7) (N := none) #[true, true, true, true, true, true, true, true] rfl rfl (one_of HT_.out (by kernel_rfl)) (by decide) (fun K hK => ?_)
          have hs20 : w18.cell? ⟨gb317, 1, none⟩ = some (u318001) := (blk_cell BK317.out 1).trans rfl
          have hfs20 := blk_frozen BK317.out 1
          have hns20_0 := NB309_317.out
          have hms20_0 := NB317_309.out
          refine skip_ (w1 := ?_) (by rfl) rfl ?_ ?_
          rotate_left
          · go_simp
            rfl
          refine hK.out _ _ ?_
          clear hK K
          refine done_ (done_of HT_.out (by kernel_rfl)) ?_
          try go_wp2
          go_roundg k1
          case measure => have := HK1.out; omega
          case rel => exact ⟨(wrap64 (x15_1 + 1)), (t324), (t325), (y326), (.slice Ao19 y326.length co19), (by first | rfl | (simp; done) | (simp [*]; done)), H', ⟨by have := HK1.out; omega⟩, ⟨by (with_reducible repeat (first | apply Kd.R_alloc | apply Kd.R_drewN | apply Kd.R_drew)); exact Kd.R_mono (Kd.R_far (p := ⟨gb317, 1, none⟩) (Kd.R_types HO328.out BK317.out (by decide)) (fun _ hk => hk.2) (.slice Ao19 y326.length co19)) (fun _ hk => trivial)⟩, ⟨by (with_reducible repeat (first | refine blk_drewN ?_ _ | refine blk_drew ?_ | refine blk_alloc ?_ _)); refine blk_far ?_ NB309_317.out _; (with_reducible repeat (first | refine blk_drewN ?_ _ | refine blk_drew ?_ | refine blk_alloc ?_ _)); exact BK309.out⟩, ⟨by (with_reducible repeat (first | refine blk_drewN ?_ _ | refine blk_drew ?_ | refine blk_alloc ?_ _)); refine blk_put (cs := #[.int .i64 t314, u318001]) ?_ 1 _ rfl; (with_reducible repeat (first | refine blk_drewN ?_ _ | refine blk_drew ?_ | refine blk_alloc ?_ _)); exact BK317.out⟩, ⟨by repeat (first | (with_reducible first | exact HI313.out | apply IsS87.alloc | apply IsS87.drewN | apply IsS87.drew | apply IsS87.set_1 | apply IsS87.set_2 | refine IsS87.far ?_ NB313_309.out _ | refine IsS87.far ?_ NB313_317.out _) | exact HI313.out)⟩, ⟨by repeat (first | (with_reducible first | exact HB.out | apply below_alloc | apply pw_below_drewN | apply below_drew1 | refine below_set ?_ (IsS87.ge HI313.out) | refine below_set ?_ GE309.out | refine below_set ?_ GE317.out) | exact HB.out)⟩⟩
        · rw [if_neg c15] at H
          exact absurd H (by simp)
      · rw [if_neg c13] at H
        have c13b0 : decide (x15_1 < t318) = false := decide_eq_false c13
        clear c13
        replace H := Option.bind_eq_some_iff.mp H
        obtain ⟨⟨t329, t330, t331⟩, A210, H⟩ := H
        replace H : (if t329 = 0 then (some (t314, x318001_1, 0)) else (some (0, ([] : List (S33)), t329))) = some (r1, r2, r3) := H
        have A21 := Aside0.mk A210
        clear A210
        by_cases c22 : t329 = 0
        · rw [if_pos c22] at H
          have c22b0 : (t329 == 0) = true := beq_iff_eq.mpr c22
          have c22b1 : (t329 != 0) = false := bne_eq_false_iff_eq.mpr c22
          clear c22
          simp only [Option.some.injEq, Prod.mk.injEq] at H
          obtain ⟨rfl, rfl, rfl⟩ := H
          have hnb23 := NB317_309.out
          have hnc23 := NB309_317.out
          have hnb24 := NB317_313.out
          have hnc24 := NB313_317.out
          have hcz25_0 : wr.cell? ⟨gb317, 0, none⟩ = some (.int .i64 t314) := (blk_cell BK317.out 0).trans rfl
          have hcz25_1 : wr.cell? ⟨gb317, 1, none⟩ = some (u318001) := (blk_cell BK317.out 1).trans rfl
          have hfz25_0 := blk_frozen BK317.out 0
          have hfz25_1 := blk_frozen BK317.out 1
          obtain ⟨Ao26, co26, eo26⟩ := Kd.R_slice HO_318001.out
          subst eo26
          go_wp2_with (first | ((with_reducible refine gate_callee (f := 58) rfl ?_); refine goesL_ (some 29) rfl rfl Try.func58 (by kernel_rfl) rfl #[.pointer (some ⟨g313, 0, none⟩), .iface 77 (.agg #[.int .i64 t314, .slice Ao26 x318001_1.length co26])] rfl (by (try simp only [List.map_toArray, List.map_cons, List.map_nil]); first | done | rfl | (simp only [List.length_drop, List.length_take]; rfl)) ?_; (with_reducible refine (record_reader_ends_commit.calls k1 g313 t310 x314001_1 x314002_1 t314 _ _ x318001_1 t329 t330 t331 w _ ?side1 ?side2 ?side3 ?side4 A21.out).mono ?_); (case side1 => repeat (first | (with_reducible first | exact HI313.out | apply IsS87.alloc | apply IsS87.drewN | apply IsS87.drew | apply IsS87.set_1 | apply IsS87.set_2 | refine IsS87.far ?_ NB313_309.out _ | refine IsS87.far ?_ NB313_317.out _) | exact HI313.out)); (case side2 => repeat (first | (with_reducible first | exact HB.out | apply below_alloc | apply pw_below_drewN | apply below_drew1 | refine below_set ?_ (IsS87.ge HI313.out) | refine below_set ?_ GE309.out | refine below_set ?_ GE317.out) | exact HB.out)); (case side3 => exact Kd.C_foot_own (IsS87.apart (show IsS87 w _ g313 t310 x314001_1 x314002_1 from by repeat (first | (with_reducible first | exact HI313.out | apply IsS87.alloc | apply IsS87.drewN | apply IsS87.drew | apply IsS87.set_1 | apply IsS87.set_2 | refine IsS87.far ?_ NB313_309.out _ | refine IsS87.far ?_ NB313_317.out _) | exact HI313.out)) (by (with_reducible repeat (first | apply Kd.R_alloc | apply Kd.R_drewN | apply Kd.R_drew)); exact HO_318001.out) (by decide)) (fun _ h_ => h_.2)); (case side4 => exact (Kd.R_reads' HO_318001.out).2.1); rintro e w27 ⟨rfl, hi, hb, hk⟩; refine ⟨_, rfl, ?_⟩; have n0_ := Aside0.mk (Kd.R_mono (Kd.R_keep (IsS87.apart (show IsS87 w _ g313 t310 x314001_1 x314002_1 from by repeat (first | (with_reducible first | exact HI313.out | apply IsS87.alloc | apply IsS87.drewN | apply IsS87.drew | apply IsS87.set_1 | apply IsS87.set_2 | refine IsS87.far ?_ NB313_309.out _ | refine IsS87.far ?_ NB313_317.out _) | exact HI313.out)) (by (with_reducible repeat (first | apply Kd.R_alloc | apply Kd.R_drewN | apply Kd.R_drew)); exact HO_318001.out) (by decide)) hk (fun _ h => h.2)) (fun _ h => h.1)); have n1_ := Aside0.mk (KeepBut.blk hk (g' := gb309) (o := .cells #[.int .i64 0, .slice none 0 0] 24 (0, 0)) (by (with_reducible repeat (first | refine blk_drewN ?_ _ | refine blk_drew ?_ | refine blk_alloc ?_ _)); exact BK309.out) NB309_313.out (by simp)); have n2_ := Aside0.mk (KeepBut.blk hk (g' := gb317) (o := .cells #[.int .i64 t314, .slice Ao26 x318001_1.length co26] 24 (0, 0)) (by (with_reducible repeat (first | refine blk_drewN ?_ _ | refine blk_drew ?_ | refine blk_alloc ?_ _)); exact BK317.out) NB317_313.out (by simp)); have n3_ := Aside0.mk (hb); have n4_ := Aside0.mk (hi); clear HO_318001; clear BK309; clear BK317; clear HB; clear HI313; have HO_318001 := n0_; have BK309 := n1_; have BK317 := n2_; have HB := n3_; have HI313 := n4_; clear n0_ n1_ n2_ n3_ n4_; (try clear hb); (try clear hb2); (try clear hk); (try clear hi); have hcz28_0 : w27.cell? ⟨gb317, 0, none⟩ = some (.int .i64 t314) := (blk_cell BK317.out 0).trans rfl; have hcz28_1 : w27.cell? ⟨gb317, 1, none⟩ = some (.slice Ao26 x318001_1.length co26) := (blk_cell BK317.out 1).trans rfl; have hfz28_0 := blk_frozen BK317.out 0; have hfz28_1 := blk_frozen BK317.out 1; have hnb29 := NB309_313.out; have hnc29 := NB313_309.out; have hcz30_0 : w27.cell? ⟨gb309, 0, none⟩ = some (.int .i64 0) := (blk_cell BK309.out 0).trans rfl; have hcz30_1 : w27.cell? ⟨gb309, 1, none⟩ = some (.slice none 0 0) := (blk_cell BK309.out 1).trans rfl; have hfz30_0 := blk_frozen BK309.out 0; have hfz30_1 := blk_frozen BK309.out 1))
          refine bodyPost_ret (results_ct rfl _ _ gb309 24 #[.int .i64 t314, .slice Ao26 x318001_1.length co26] (0, 0) _ rfl (by (with_reducible repeat (first | refine blk_drewN ?_ _ | refine blk_drew ?_ | refine blk_alloc ?_ _)); refine blk_put (cs := #[.int .i64 t314, .slice none 0 0]) ?_ 1 _ rfl; (with_reducible repeat (first | refine blk_drewN ?_ _ | refine blk_drew ?_ | refine blk_alloc ?_ _)); refine blk_put (cs := #[.int .i64 0, .slice none 0 0]) ?_ 0 _ rfl; (with_reducible repeat (first | refine blk_drewN ?_ _ | refine blk_drew ?_ | refine blk_alloc ?_ _)); exact BK309.out) Try.underlying24 rfl (by kernel_rfl)) rfl ?_
          exact ⟨_, by first | rfl | (simp [errW_none, errW_some] <;> rfl) | (simp [*, errW_none, errW_some] <;> rfl), by (with_reducible repeat (first | apply Kd.R_alloc | apply Kd.R_drewN | apply Kd.R_drew)); exact Kd.R_mono (Kd.R_far (p := ⟨gb309, 1, none⟩) (Kd.R_far (p := ⟨gb309, 0, none⟩) (Kd.R_types HO_318001.out BK309.out (by decide)) (fun _ hk => hk.2) (.int .i64 t314)) (fun _ hk => hk.2) (.slice Ao26 x318001_1.length co26)) (fun _ hk => trivial), by repeat (first | (with_reducible first | exact HB.out | apply below_alloc | apply pw_below_drewN | apply below_drew1 | refine below_set ?_ (IsS87.ge HI313.out) | refine below_set ?_ GE309.out | refine below_set ?_ GE317.out) | exact HB.out)⟩
        · rw [if_neg c22] at H
          have c22b0 : (t329 == 0) = false := beq_eq_false_iff_ne.mpr c22
          have c22b1 : (t329 != 0) = true := bne_iff_ne.mpr c22
          simp only [Option.some.injEq, Prod.mk.injEq] at H
          obtain ⟨rfl, rfl, rfl⟩ := H
          have hnb31 := NB317_309.out
          have hnc31 := NB309_317.out
          have hnb32 := NB317_313.out
          have hnc32 := NB313_317.out
          have hcz33_0 : wr.cell? ⟨gb317, 0, none⟩ = some (.int .i64 t314) := (blk_cell BK317.out 0).trans rfl
          have hcz33_1 : wr.cell? ⟨gb317, 1, none⟩ = some (u318001) := (blk_cell BK317.out 1).trans rfl
          have hfz33_0 := blk_frozen BK317.out 0
          have hfz33_1 := blk_frozen BK317.out 1
          obtain ⟨Ao34, co34, eo34⟩ := Kd.R_slice HO_318001.out
          subst eo34
          go_wp2_with (first | ((with_reducible refine gate_callee (f := 58) rfl ?_); refine goesL_ (some 29) rfl rfl Try.func58 (by kernel_rfl) rfl #[.pointer (some ⟨g313, 0, none⟩), .iface 77 (.agg #[.int .i64 t314, .slice Ao34 x318001_1.length co34])] rfl (by (try simp only [List.map_toArray, List.map_cons, List.map_nil]); first | done | rfl | (simp only [List.length_drop, List.length_take]; rfl)) ?_; (with_reducible refine (record_reader_ends_commit.calls k1 g313 t310 x314001_1 x314002_1 t314 _ _ x318001_1 t329 t330 t331 w _ ?side1 ?side2 ?side3 ?side4 A21.out).mono ?_); (case side1 => repeat (first | (with_reducible first | exact HI313.out | apply IsS87.alloc | apply IsS87.drewN | apply IsS87.drew | apply IsS87.set_1 | apply IsS87.set_2 | refine IsS87.far ?_ NB313_309.out _ | refine IsS87.far ?_ NB313_317.out _) | exact HI313.out)); (case side2 => repeat (first | (with_reducible first | exact HB.out | apply below_alloc | apply pw_below_drewN | apply below_drew1 | refine below_set ?_ (IsS87.ge HI313.out) | refine below_set ?_ GE309.out | refine below_set ?_ GE317.out) | exact HB.out)); (case side3 => exact Kd.C_foot_own (IsS87.apart (show IsS87 w _ g313 t310 x314001_1 x314002_1 from by repeat (first | (with_reducible first | exact HI313.out | apply IsS87.alloc | apply IsS87.drewN | apply IsS87.drew | apply IsS87.set_1 | apply IsS87.set_2 | refine IsS87.far ?_ NB313_309.out _ | refine IsS87.far ?_ NB313_317.out _) | exact HI313.out)) (by (with_reducible repeat (first | apply Kd.R_alloc | apply Kd.R_drewN | apply Kd.R_drew)); exact HO_318001.out) (by decide)) (fun _ h_ => h_.2)); (case side4 => exact (Kd.R_reads' HO_318001.out).2.1); rintro e w35 ⟨rfl, hi, hb, hk⟩; refine ⟨_, rfl, ?_⟩; have n0_ := Aside0.mk (Kd.R_mono (Kd.R_keep (IsS87.apart (show IsS87 w _ g313 t310 x314001_1 x314002_1 from by repeat (first | (with_reducible first | exact HI313.out | apply IsS87.alloc | apply IsS87.drewN | apply IsS87.drew | apply IsS87.set_1 | apply IsS87.set_2 | refine IsS87.far ?_ NB313_309.out _ | refine IsS87.far ?_ NB313_317.out _) | exact HI313.out)) (by (with_reducible repeat (first | apply Kd.R_alloc | apply Kd.R_drewN | apply Kd.R_drew)); exact HO_318001.out) (by decide)) hk (fun _ h => h.2)) (fun _ h => h.1)); have n1_ := Aside0.mk (KeepBut.blk hk (g' := gb309) (o := .cells #[.int .i64 0, .slice none 0 0] 24 (0, 0)) (by (with_reducible repeat (first | refine blk_drewN ?_ _ | refine blk_drew ?_ | refine blk_alloc ?_ _)); exact BK309.out) NB309_313.out (by simp)); have n2_ := Aside0.mk (KeepBut.blk hk (g' := gb317) (o := .cells #[.int .i64 t314, .slice Ao34 x318001_1.length co34] 24 (0, 0)) (by (with_reducible repeat (first | refine blk_drewN ?_ _ | refine blk_drew ?_ | refine blk_alloc ?_ _)); exact BK317.out) NB317_313.out (by simp)); have n3_ := Aside0.mk (hb); have n4_ := Aside0.mk (hi); clear HO_318001; clear BK309; clear BK317; clear HB; clear HI313; have HO_318001 := n0_; have BK309 := n1_; have BK317 := n2_; have HB := n3_; have HI313 := n4_; clear n0_ n1_ n2_ n3_ n4_; (try clear hb); (try clear hb2); (try clear hk); (try clear hi); have hnb36 := NB309_313.out; have hnc36 := NB313_309.out; have hcz37_0 : w35.cell? ⟨gb309, 0, none⟩ = some (.int .i64 0) := (blk_cell BK309.out 0).trans rfl; have hcz37_1 : w35.cell? ⟨gb309, 1, none⟩ = some (.slice none 0 0) := (blk_cell BK309.out 1).trans rfl; have hfz37_0 := blk_frozen BK309.out 0; have hfz37_1 := blk_frozen BK309.out 1))
          refine bodyPost_ret (results_ct rfl _ _ gb309 24 #[.int .i64 0, .slice none 0 0] (0, 0) _ rfl (by (with_reducible repeat (first | refine blk_drewN ?_ _ | refine blk_drew ?_ | refine blk_alloc ?_ _)); refine blk_put (cs := #[.int .i64 0, .slice none 0 0]) ?_ 1 _ rfl; (with_reducible repeat (first | refine blk_drewN ?_ _ | refine blk_drew ?_ | refine blk_alloc ?_ _)); refine blk_put (cs := #[.int .i64 0, .slice none 0 0]) ?_ 0 _ rfl; (with_reducible repeat (first | refine blk_drewN ?_ _ | refine blk_drew ?_ | refine blk_alloc ?_ _)); exact BK309.out) Try.underlying24 rfl (by kernel_rfl)) rfl ?_
          exact ⟨_, by first | rfl | (simp [errW_none, errW_some] <;> rfl) | (simp [*, errW_none, errW_some] <;> rfl), by first | exact Kd.R_nil _ _ _ _ _ | exact Kd.N_nil _ _ _ _ _ | exact Kd.V_nil _ _ _ _ _ | exact Kd.Q_nil _ _ _ _ _ | exact Kd.S_nil _ _ _ _ _, by repeat (first | (with_reducible first | exact HB.out | apply below_alloc | apply pw_below_drewN | apply below_drew1 | refine below_set ?_ (IsS87.ge HI313.out) | refine below_set ?_ GE309.out | refine below_set ?_ GE317.out) | exact HB.out)⟩

def record_reader_ends_chunk.f (k : Nat) (s0_0 : List Int) (s0_1 : Int) (s0_2 : Int) (a1_0 : Int) (l1_1 : List (S74)) (a1_2 : Bool) : Option (Int × Int × Int) := if s0_2 = 0 then (if s0_1 < (s0_0.length : Int) then (if 13 = 0 then ((record_chunk_check.f k a1_0 l1_1 a1_2).bind fun t305 => (some (t305, s0_1, t305))) else (some (13, s0_1, 13))) else ((record_chunk_check.f k a1_0 l1_1 a1_2).bind fun t306 => (some (t306, s0_1, t306)))) else (some (s0_2, s0_1, s0_2))
set_option maxHeartbeats 8000000 in
set_option maxRecDepth 100000 in
theorem record_reader_ends_chunk.calls (k : Nat) (g : Nat) (s0_0 : List Int) (s0_1 : Int) (s0_2 : Int) (a1_0 : Int) (A1_1 : Option Addr) (c1_1 : Nat) (l1_1 : List (S74)) (a1_2 : Bool) (r1 : Int) (r2 : Int) (r3 : Int) (w0 w : World) (hI : IsS87 w0 w g s0_0 s0_1 s0_2) (hB : Below w0.heap.size w0 w) (hr1_1 : ∀ W_, KeepBut w W_ g none → Kd.C k74 W_ A1_1 l1_1.length l1_1) (hc1_1 : l1_1.length ≤ c1_1) (h : record_reader_ends_chunk.f k s0_0 s0_1 s0_2 a1_0 l1_1 a1_2 = some (r1, r2, r3)) :
    Calls Try.prog 58 #[.pointer (some ⟨g, 0, none⟩), .iface 80 (.agg #[.int .i64 a1_0, .slice A1_1 l1_1.length c1_1, .bool a1_2])] w fun e w' => e = .returned (.int .i64 r1) ∧ IsS87 w0 w' g s0_0 r2 r3 ∧ Below w0.heap.size w0 w' ∧ KeepBut w w' g none := by
  have HR1_1 := Aside0.mk hr1_1
  have HC1_1 := Aside0.mk hc1_1
  clear hr1_1 hc1_1
  have HI0 := Aside0.mk hI
  have HK := Aside0.mk (KeepBut.refl w g none)
  have HL := Aside0.mk hB.size
  clear hI
  have HW0 := Aside0.mk hB.size
  have HBW := Aside0.mk hB
  have HB := Aside0.mk hB
  clear hB
  have H : (if s0_2 = 0 then (if s0_1 < (s0_0.length : Int) then (if 13 = 0 then ((record_chunk_check.f k a1_0 l1_1 a1_2).bind fun t305 => (some (t305, s0_1, t305))) else (some (13, s0_1, 13))) else ((record_chunk_check.f k a1_0 l1_1 a1_2).bind fun t306 => (some (t306, s0_1, t306)))) else (some (s0_2, s0_1, s0_2))) = some (r1, r2, r3) := h
  clear h
  by_cases c3 : s0_2 = 0
  · rw [if_pos c3] at H
    have c3b0 : (s0_2 == 0) = true := beq_iff_eq.mpr c3
    have c3b1 : (s0_2 != 0) = false := bne_eq_false_iff_eq.mpr c3
    clear c3
    by_cases c4 : s0_1 < (s0_0.length : Int)
    · rw [if_pos c4] at H
      have c4b0 : decide (s0_1 < (s0_0.length : Int)) = true := decide_eq_true c4
      clear c4
      have H1 : (some (13, s0_1, 13)) = some (r1, r2, r3) := by rw [if_neg (show ¬ (13 = 0) by decide)] at H; first | done | exact H
      clear H
      have H := H1
      clear H1
      simp only [Option.some.injEq, Prod.mk.injEq] at H
      obtain ⟨rfl, rfl, rfl⟩ := H
      obtain ⟨ASz5_0, cSz5_0, HGz5, hgz5, HSz5_0⟩ := HI0.out
      have hcz5_0 := cellS87_0 HGz5
      have hcz5_1 := cellS87_1 HGz5
      have hcz5_2 := cellS87_2 HGz5
      have hfz5_1 := blk_frozen HGz5 1
      have hfz5_2 := blk_frozen HGz5 2
      clear HGz5 hgz5
      go_enter Try.func58, Try.ntmps58
      go_wp2
      repeat (go_quiet (fail); try go_wp2)
      go_ret
      exact ⟨by first | rfl | (simp [errW_none, errW_some] <;> rfl) | (simp [*, errW_none, errW_some] <;> rfl), by repeat (first | (with_reducible first | exact HI0.out | apply IsS87.alloc | apply IsS87.drewN | apply IsS87.drew | apply IsS87.set_1 | apply IsS87.set_2) | exact HI0.out), by repeat (first | (with_reducible first | exact HB.out | apply below_alloc | apply pw_below_drewN | apply below_drew1 | refine below_set ?_ (IsS87.ge HI0.out)) | exact HB.out), by repeat (first | (with_reducible first | exact HK.out | apply KeepBut.set_ | apply keep_drewN | apply keep_drew | apply keep_alloc) | exact HK.out)⟩
    · rw [if_neg c4] at H
      have c4b0 : decide (s0_1 < (s0_0.length : Int)) = false := decide_eq_false c4
      clear c4
      replace H := Option.bind_eq_some_iff.mp H
      obtain ⟨t306, A60, H⟩ := H
      replace H : (some (t306, s0_1, t306)) = some (r1, r2, r3) := H
      have A6 := Aside0.mk A60
      clear A60
      simp only [Option.some.injEq, Prod.mk.injEq] at H
      obtain ⟨rfl, rfl, rfl⟩ := H
      obtain ⟨ASz7_0, cSz7_0, HGz7, hgz7, HSz7_0⟩ := HI0.out
      have hcz7_0 := cellS87_0 HGz7
      have hcz7_1 := cellS87_1 HGz7
      have hcz7_2 := cellS87_2 HGz7
      have hfz7_1 := blk_frozen HGz7 1
      have hfz7_2 := blk_frozen HGz7 2
      clear HGz7 hgz7
      go_enter Try.func58, Try.ntmps58
      go_wp2_with (first | (go_at_call 113; (with_reducible refine (record_chunk_check.calls k a1_0 _ _ l1_1 a1_2 t306 _ ?side1 ?side2 A6.out).mono ?_); (case side1 => exact Kd.C_foot_now HR1_1.out (by repeat (first | (with_reducible first | exact HK.out | apply KeepBut.set_ | apply keep_drewN | apply keep_drew | apply keep_alloc) | exact HK.out))); (case side2 => exact HC1_1.out); rintro e w8 ⟨rfl, hb⟩; have n0_ := Aside0.mk (IsS87.below (by repeat (first | (with_reducible first | exact HI0.out | apply IsS87.alloc | apply IsS87.drewN | apply IsS87.drew | apply IsS87.set_1 | apply IsS87.set_2) | exact HI0.out)) hb); have n1_ := Aside0.mk (KeepBut.trans (by repeat (first | (with_reducible first | exact HK.out | apply KeepBut.set_ | apply keep_drewN | apply keep_drew | apply keep_alloc) | exact HK.out)) (KeepBut.of_below hb g none) (.inl rfl)); have n2_ := Aside0.mk (below_step (by repeat (first | (with_reducible first | exact HB.out | apply below_alloc | apply pw_below_drewN | apply below_drew1 | refine below_set ?_ (IsS87.ge HI0.out)) | exact HB.out)) hb); clear HI0; clear HK; clear HB; have HI0 := n0_; have HK := n1_; have HB := n2_; clear n0_ n1_ n2_; (try clear hb); (try clear hb2); (try clear hk); (try clear hi); obtain ⟨ASz9_0, cSz9_0, HGz9, hgz9, HSz9_0⟩ := HI0.out; have hcz9_0 := cellS87_0 HGz9; have hcz9_1 := cellS87_1 HGz9; have hcz9_2 := cellS87_2 HGz9; have hfz9_1 := blk_frozen HGz9 1; have hfz9_2 := blk_frozen HGz9 2; clear HGz9 hgz9))
      repeat (go_quiet (first | (go_at_call 113; (with_reducible refine (record_chunk_check.calls k a1_0 _ _ l1_1 a1_2 t306 _ ?side1 ?side2 A6.out).mono ?_); (case side1 => exact Kd.C_foot_now HR1_1.out (by repeat (first | (with_reducible first | exact HK.out | apply KeepBut.set_ | apply keep_drewN | apply keep_drew | apply keep_alloc) | exact HK.out))); (case side2 => exact HC1_1.out); rintro e w8 ⟨rfl, hb⟩; have n0_ := Aside0.mk (IsS87.below (by repeat (first | (with_reducible first | exact HI0.out | apply IsS87.alloc | apply IsS87.drewN | apply IsS87.drew | apply IsS87.set_1 | apply IsS87.set_2) | exact HI0.out)) hb); have n1_ := Aside0.mk (KeepBut.trans (by repeat (first | (with_reducible first | exact HK.out | apply KeepBut.set_ | apply keep_drewN | apply keep_drew | apply keep_alloc) | exact HK.out)) (KeepBut.of_below hb g none) (.inl rfl)); have n2_ := Aside0.mk (below_step (by repeat (first | (with_reducible first | exact HB.out | apply below_alloc | apply pw_below_drewN | apply below_drew1 | refine below_set ?_ (IsS87.ge HI0.out)) | exact HB.out)) hb); clear HI0; clear HK; clear HB; have HI0 := n0_; have HK := n1_; have HB := n2_; clear n0_ n1_ n2_; (try clear hb); (try clear hb2); (try clear hk); (try clear hi); obtain ⟨ASz9_0, cSz9_0, HGz9, hgz9, HSz9_0⟩ := HI0.out; have hcz9_0 := cellS87_0 HGz9; have hcz9_1 := cellS87_1 HGz9; have hcz9_2 := cellS87_2 HGz9; have hfz9_1 := blk_frozen HGz9 1; have hfz9_2 := blk_frozen HGz9 2; clear HGz9 hgz9)); try go_wp2_with (first | (go_at_call 113; (with_reducible refine (record_chunk_check.calls k a1_0 _ _ l1_1 a1_2 t306 _ ?side1 ?side2 A6.out).mono ?_); (case side1 => exact Kd.C_foot_now HR1_1.out (by repeat (first | (with_reducible first | exact HK.out | apply KeepBut.set_ | apply keep_drewN | apply keep_drew | apply keep_alloc) | exact HK.out))); (case side2 => exact HC1_1.out); rintro e w8 ⟨rfl, hb⟩; have n0_ := Aside0.mk (IsS87.below (by repeat (first | (with_reducible first | exact HI0.out | apply IsS87.alloc | apply IsS87.drewN | apply IsS87.drew | apply IsS87.set_1 | apply IsS87.set_2) | exact HI0.out)) hb); have n1_ := Aside0.mk (KeepBut.trans (by repeat (first | (with_reducible first | exact HK.out | apply KeepBut.set_ | apply keep_drewN | apply keep_drew | apply keep_alloc) | exact HK.out)) (KeepBut.of_below hb g none) (.inl rfl)); have n2_ := Aside0.mk (below_step (by repeat (first | (with_reducible first | exact HB.out | apply below_alloc | apply pw_below_drewN | apply below_drew1 | refine below_set ?_ (IsS87.ge HI0.out)) | exact HB.out)) hb); clear HI0; clear HK; clear HB; have HI0 := n0_; have HK := n1_; have HB := n2_; clear n0_ n1_ n2_; (try clear hb); (try clear hb2); (try clear hk); (try clear hi); obtain ⟨ASz9_0, cSz9_0, HGz9, hgz9, HSz9_0⟩ := HI0.out; have hcz9_0 := cellS87_0 HGz9; have hcz9_1 := cellS87_1 HGz9; have hcz9_2 := cellS87_2 HGz9; have hfz9_1 := blk_frozen HGz9 1; have hfz9_2 := blk_frozen HGz9 2; clear HGz9 hgz9)))
      go_ret
      exact ⟨by first | rfl | (simp [errW_none, errW_some] <;> rfl) | (simp [*, errW_none, errW_some] <;> rfl), by repeat (first | (with_reducible first | exact HI0.out | apply IsS87.alloc | apply IsS87.drewN | apply IsS87.drew | apply IsS87.set_1 | apply IsS87.set_2) | exact HI0.out), by repeat (first | (with_reducible first | exact HB.out | apply below_alloc | apply pw_below_drewN | apply below_drew1 | refine below_set ?_ (IsS87.ge HI0.out)) | exact HB.out), by repeat (first | (with_reducible first | exact HK.out | apply KeepBut.set_ | apply keep_drewN | apply keep_drew | apply keep_alloc) | exact HK.out)⟩
  · rw [if_neg c3] at H
    have c3b0 : (s0_2 == 0) = false := beq_eq_false_iff_ne.mpr c3
    have c3b1 : (s0_2 != 0) = true := bne_iff_ne.mpr c3
    simp only [Option.some.injEq, Prod.mk.injEq] at H
    obtain ⟨rfl, rfl, rfl⟩ := H
    obtain ⟨ASz10_0, cSz10_0, HGz10, hgz10, HSz10_0⟩ := HI0.out
    have hcz10_0 := cellS87_0 HGz10
    have hcz10_1 := cellS87_1 HGz10
    have hcz10_2 := cellS87_2 HGz10
    have hfz10_1 := blk_frozen HGz10 1
    have hfz10_2 := blk_frozen HGz10 2
    clear HGz10 hgz10
    go_enter Try.func58, Try.ntmps58
    go_wp2
    repeat (go_quiet (fail); try go_wp2)
    go_ret
    exact ⟨by first | rfl | (simp [errW_none, errW_some] <;> rfl) | (simp [*, errW_none, errW_some] <;> rfl), by repeat (first | (with_reducible first | exact HI0.out | apply IsS87.alloc | apply IsS87.drewN | apply IsS87.drew | apply IsS87.set_1 | apply IsS87.set_2) | exact HI0.out), by repeat (first | (with_reducible first | exact HB.out | apply below_alloc | apply pw_below_drewN | apply below_drew1 | refine below_set ?_ (IsS87.ge HI0.out)) | exact HB.out), by repeat (first | (with_reducible first | exact HK.out | apply KeepBut.set_ | apply keep_drewN | apply keep_drew | apply keep_alloc) | exact HK.out)⟩

def record_TakeChunk.l0 : Nat → Int → Int → List Int → Int → Int → Int → List (S74) → Bool → Option (Int × (List (S74)) × Bool × Int)
  | 0, _, _, _, _, _, _, _, _ => none
  | k + 1, x16, x17, x614000, x614001, x614002, x621000, x621001, x621002 => if x17 < x16 then ((record_reader_text.f k x614000 x614001 x614002).bind fun bt624 => ((record_reader_text.f k x614000 bt624.2.1 bt624.2.2).bind fun bt627 => ((record_reader_num.f k x614000 bt627.2.1 bt627.2.2).bind fun bt630 => (if x621001.length < 3518437208883 then (record_TakeChunk.l0 k x16 (wrap64 (x17 + 1)) x614000 bt630.2.1 bt630.2.2 x621000 (x621001 ++ [(⟨bt624.1, bt627.1, bt630.1⟩ : S74)]) x621002) else (none))))) else ((record_reader_ends_chunk.f k x614000 x614001 x614002 x621000 x621001 x621002).bind fun bt636 => (if bt636.1 = 0 then (some (x621000, x621001, x621002, 0)) else (some (0, ([] : List (S74)), false, bt636.1))))
def record_TakeChunk.f (k : Nat) (l0 : List Int) : Option (Int × (List (S74)) × Bool × Int) := (record_reader_mk.f l0).bind fun bt610 => ((record_reader_num.f k bt610.1 bt610.2.1 bt610.2.2).bind fun bt614 => ((record_reader_flag.f k bt610.1 bt614.2.1 bt614.2.2).bind fun bt617 => ((record_reader_many.f k bt610.1 bt617.2.1 bt617.2.2 16).bind fun bt621 => (record_TakeChunk.l0 k bt621.1 0 bt610.1 bt621.2.1 bt621.2.2 bt614.1 ([] : List (S74)) bt617.1))))
def record_TakeChunk.T5 : Bool × List (List Nat × List Nat) := (true, [([], []), ([0], [0]), ([], []), ([2], [2]), ([], []), ([4, 3], [4]), ([], []), ([6, 5], [6]), ([3, 5, 7], [3, 5, 7]), ([8], [8]), ([1, 9, 7], [1, 9]), ([0, 1, 2, 3, 4, 5, 6, 7, 8, 9, 10], []), ([11, 10, 10, 0, 1, 2, 3, 4, 5, 6, 7, 8, 9, 10], [10, 11])])
def record_TakeChunk.B5 : List Nat := [0, 1, 0, 4, 0, 28, 0, 124, 252, 508, 1023, 2047, 4095]
theorem record_TakeChunk.tab5 : rtab .any (opsOf Try.f38 5) = record_TakeChunk.T5 := by kernel_rfl
theorem record_TakeChunk.bits5 : waitsOk record_TakeChunk.T5.2 record_TakeChunk.B5 = true := by kernel_rfl
set_option maxHeartbeats 8000000 in
set_option maxRecDepth 100000 in
theorem record_TakeChunk.calls (k : Nat) (A0 : Option Addr) (c0 : Nat) (l0 : List Int) (r1 : Int) (r2 : List (S74)) (r3 : Bool) (r4 : Int) (w : World) (hr0 : Kd.C (Kd.int .u8) w A0 l0.length l0) (hc0 : l0.length ≤ c0) (h : record_TakeChunk.f k l0 = some (r1, r2, r3, r4)) :
    Calls Try.prog 38 #[.slice A0 l0.length c0] w fun e w' => ∃ v1_ : Value, e = .returned (.tuple #[.agg #[.int .i64 r1, v1_, .bool r3], .int .i64 r4]) ∧ Kd.R k74 74 w' w.heap.size (fun _ => True) v1_ r2 ∧ Below w.heap.size w w' := by
  have hu27 := Try.underlying27
  have hu74 := Try.underlying74
  have hu80 := Try.underlying80
  have HR0 := Aside0.mk hr0
  have HC0 := Aside0.mk hc0
  clear hr0 hc0
  have HB := Aside0.mk (Below.refl w.heap.size w)
  have H : ((record_reader_mk.f l0).bind fun bt610 => ((record_reader_num.f k bt610.1 bt610.2.1 bt610.2.2).bind fun bt614 => ((record_reader_flag.f k bt610.1 bt614.2.1 bt614.2.2).bind fun bt617 => ((record_reader_many.f k bt610.1 bt617.2.1 bt617.2.2 16).bind fun bt621 => (record_TakeChunk.l0 k bt621.1 0 bt610.1 bt621.2.1 bt621.2.2 bt614.1 ([] : List (S74)) bt617.1))))) = some (r1, r2, r3, r4) := h
  clear h
  replace H := Option.bind_eq_some_iff.mp H
  obtain ⟨⟨t610, t611, t612⟩, A20, H⟩ := H
  replace H : ((record_reader_num.f k t610 t611 t612).bind fun bt614 => ((record_reader_flag.f k t610 bt614.2.1 bt614.2.2).bind fun bt617 => ((record_reader_many.f k t610 bt617.2.1 bt617.2.2 16).bind fun bt621 => (record_TakeChunk.l0 k bt621.1 0 t610 bt621.2.1 bt621.2.2 bt614.1 ([] : List (S74)) bt617.1)))) = some (r1, r2, r3, r4) := H
  have A2 := Aside0.mk A20
  clear A20
  replace H := Option.bind_eq_some_iff.mp H
  obtain ⟨⟨t614, t615, t616⟩, A30, H⟩ := H
  replace H : ((record_reader_flag.f k t610 t615 t616).bind fun bt617 => ((record_reader_many.f k t610 bt617.2.1 bt617.2.2 16).bind fun bt621 => (record_TakeChunk.l0 k bt621.1 0 t610 bt621.2.1 bt621.2.2 t614 ([] : List (S74)) bt617.1))) = some (r1, r2, r3, r4) := H
  have A3 := Aside0.mk A30
  clear A30
  replace H := Option.bind_eq_some_iff.mp H
  obtain ⟨⟨t617, t618, t619⟩, A40, H⟩ := H
  replace H : ((record_reader_many.f k t610 t618 t619 16).bind fun bt621 => (record_TakeChunk.l0 k bt621.1 0 t610 bt621.2.1 bt621.2.2 t614 ([] : List (S74)) t617)) = some (r1, r2, r3, r4) := H
  have A4 := Aside0.mk A40
  clear A40
  replace H := Option.bind_eq_some_iff.mp H
  obtain ⟨⟨t621, t622, t623⟩, A50, H⟩ := H
  replace H : (record_TakeChunk.l0 k t621 0 t610 t622 t623 t614 ([] : List (S74)) t617) = some (r1, r2, r3, r4) := H
  have A5 := Aside0.mk A50
  clear A50
  have H' := Aside0.mk H
  clear H
  go_enter Try.func38, Try.ntmps38
  go_wp2_with (first | ((with_reducible refine gate_dst (N := 2) rfl ?_); refine box_event ?hg (N := 2) ?hd (cs := #[.int .i64 0, .slice none 0 0, .bool false]) (t := 27) ?hr ?_; (case hd => rfl); (case hg => rfl); (case hr => first | (go_simp; done) | (go_simp; rfl)); intro gb609 hg w6 hbox hb; have n0_ := Aside0.mk (below_step (by repeat (first | (with_reducible first | exact HB.out | apply below_alloc | apply pw_below_drewN | apply below_drew1) | exact HB.out)) hb); have n1_ := Aside0.mk (hbox); have n2_ := Aside0.mk ((by rw [hg]; exact (below_size (by repeat (first | (with_reducible first | exact HB.out | apply below_alloc | apply pw_below_drewN | apply below_drew1) | exact HB.out))) : w.heap.size ≤ gb609)); have n3_ := Aside0.mk ((by rw [hg]; exact (below_size (by repeat (first | (with_reducible first | exact HB.out | apply below_alloc | apply pw_below_drewN | apply below_drew1) | exact HB.out))) : w.heap.size ≤ gb609)); clear HB; have HB := n0_; have BK609 := n1_; have GW609 := n2_; have GE609 := n3_; clear n0_ n1_ n2_ n3_; clear hb hbox hg) | ((with_reducible refine gate_dst (N := 9) rfl ?_); refine box_event ?hg (N := 9) ?hd (cs := #[.slice A0 l0.length c0, .int .i64 0, .int .i64 0]) (t := 87) ?hr ?_; (case hd => rfl); (case hg => rfl); (case hr => first | (go_simp; done) | (go_simp; rfl)); intro g613 hgq_ w7 hbox_ hb2; (have hm_ := A2.out; simp only [record_reader_mk.f, Option.some.injEq, Prod.mk.injEq] at hm_); obtain ⟨e1_, e2_, e3_⟩ := hm_; have hb := below_step (by repeat (first | (with_reducible first | exact HB.out | apply below_alloc | apply pw_below_drewN | apply below_drew1 | refine below_set ?_ GE609.out) | exact HB.out)) hb2; have hi : IsS87 w w7 g613 t610 t611 t612 := (by rw [← e1_, ← e2_, ← e3_]; exact ⟨_, _, hbox_, by rw [hgq_]; exact below_size (by repeat (first | (with_reducible first | exact HB.out | apply below_alloc | apply pw_below_drewN | apply below_drew1 | refine below_set ?_ GE609.out) | exact HB.out)), HR0.out, HC0.out⟩); clear e1_ e2_ e3_ hbox_ hgq_; have n0_ := Aside0.mk (blk_below (g := gb609) (o := .cells #[.int .i64 0, .slice none 0 0, .bool false] 27 (0, 0)) (by (with_reducible repeat (first | refine blk_drewN ?_ _ | refine blk_drew ?_ | refine blk_alloc ?_ _)); exact BK609.out) hb2); have n1_ := Aside0.mk (hb); have n2_ := Aside0.mk (hi); have n3_ := Aside0.mk (IsS87.ne_blk hi (blk_below (g := gb609) (o := .cells #[.int .i64 0, .slice none 0 0, .bool false] 27 (0, 0)) (by (with_reducible repeat (first | refine blk_drewN ?_ _ | refine blk_drew ?_ | refine blk_alloc ?_ _)); exact BK609.out) hb2) (by decide)); have n4_ := Aside0.mk (Ne.symm (IsS87.ne_blk hi (blk_below (g := gb609) (o := .cells #[.int .i64 0, .slice none 0 0, .bool false] 27 (0, 0)) (by (with_reducible repeat (first | refine blk_drewN ?_ _ | refine blk_drew ?_ | refine blk_alloc ?_ _)); exact BK609.out) hb2) (by decide))); clear BK609; clear HB; have BK609 := n0_; have HB := n1_; have HI613 := n2_; have NB613_609 := n3_; have NB609_613 := n4_; clear n0_ n1_ n2_ n3_ n4_; (try clear hb); (try clear hb2); (try clear hk); (try clear hi)) | ((with_reducible refine gate_callee (f := 55) rfl ?_); refine goesL_ (some 11) rfl rfl Try.func55 (by kernel_rfl) rfl #[.pointer (some ⟨g613, 0, none⟩)] rfl (by (try simp only [List.map_toArray, List.map_cons, List.map_nil]); first | done | rfl | (simp only [List.length_drop, List.length_take]; rfl)) ?_; (with_reducible refine (record_reader_num.calls k g613 t610 t611 t612 t614 t615 t616 w _ ?side1 ?side2 A3.out).mono ?_); (case side1 => repeat (first | (with_reducible first | exact HI613.out | apply IsS87.alloc | apply IsS87.drewN | apply IsS87.drew | apply IsS87.set_1 | apply IsS87.set_2 | refine IsS87.far ?_ NB613_609.out _) | exact HI613.out)); (case side2 => repeat (first | (with_reducible first | exact HB.out | apply below_alloc | apply pw_below_drewN | apply below_drew1 | refine below_set ?_ (IsS87.ge HI613.out) | refine below_set ?_ GE609.out) | exact HB.out)); rintro e w8 ⟨rfl, hi, hb, hk⟩; refine ⟨_, rfl, ?_⟩; have n0_ := Aside0.mk (KeepBut.blk hk (g' := gb609) (o := .cells #[.int .i64 0, .slice none 0 0, .bool false] 27 (0, 0)) (by (with_reducible repeat (first | refine blk_drewN ?_ _ | refine blk_drew ?_ | refine blk_alloc ?_ _)); exact BK609.out) NB609_613.out (by simp)); have n1_ := Aside0.mk (hb); have n2_ := Aside0.mk (hi); clear BK609; clear HB; clear HI613; have BK609 := n0_; have HB := n1_; have HI613 := n2_; clear n0_ n1_ n2_; (try clear hb); (try clear hb2); (try clear hk); (try clear hi)) | ((with_reducible refine gate_callee (f := 66) rfl ?_); refine goesL_ (some 13) rfl rfl Try.func66 (by kernel_rfl) rfl #[.pointer (some ⟨g613, 0, none⟩)] rfl (by (try simp only [List.map_toArray, List.map_cons, List.map_nil]); first | done | rfl | (simp only [List.length_drop, List.length_take]; rfl)) ?_; (with_reducible refine (record_reader_flag.calls k g613 t610 t615 t616 t617 t618 t619 w _ ?side1 ?side2 A4.out).mono ?_); (case side1 => repeat (first | (with_reducible first | exact HI613.out | apply IsS87.alloc | apply IsS87.drewN | apply IsS87.drew | apply IsS87.set_1 | apply IsS87.set_2 | refine IsS87.far ?_ NB613_609.out _) | exact HI613.out)); (case side2 => repeat (first | (with_reducible first | exact HB.out | apply below_alloc | apply pw_below_drewN | apply below_drew1 | refine below_set ?_ (IsS87.ge HI613.out) | refine below_set ?_ GE609.out) | exact HB.out)); rintro e w9 ⟨rfl, hi, hb, hk⟩; refine ⟨_, rfl, ?_⟩; have n0_ := Aside0.mk (KeepBut.blk hk (g' := gb609) (o := .cells #[.int .i64 0, .slice none 0 0, .bool false] 27 (0, 0)) (by (with_reducible repeat (first | refine blk_drewN ?_ _ | refine blk_drew ?_ | refine blk_alloc ?_ _)); exact BK609.out) NB609_613.out (by simp)); have n1_ := Aside0.mk (hb); have n2_ := Aside0.mk (hi); clear BK609; clear HB; clear HI613; have BK609 := n0_; have HB := n1_; have HI613 := n2_; clear n0_ n1_ n2_; (try clear hb); (try clear hb2); (try clear hk); (try clear hi)) | ((with_reducible refine gate_dst (N := 5) rfl ?_); refine box_event ?hg (N := 5) ?hd (cs := #[.int .i64 0, .slice none 0 0, .bool false]) (t := 27) ?hr ?_; (case hd => rfl); (case hg => rfl); (case hr => first | (go_simp; done) | (go_simp; rfl)); intro gb620 hg w10 hbox hb; have n0_ := Aside0.mk (blk_below (g := gb609) (o := .cells #[.int .i64 0, .slice none 0 0, .bool false] 27 (0, 0)) (by (with_reducible repeat (first | refine blk_drewN ?_ _ | refine blk_drew ?_ | refine blk_alloc ?_ _)); exact BK609.out) hb); have n1_ := Aside0.mk (IsS87.below (by repeat (first | (with_reducible first | exact HI613.out | apply IsS87.alloc | apply IsS87.drewN | apply IsS87.drew | apply IsS87.set_1 | apply IsS87.set_2 | refine IsS87.far ?_ NB613_609.out _) | exact HI613.out)) hb); have n2_ := Aside0.mk (below_step (by repeat (first | (with_reducible first | exact HB.out | apply below_alloc | apply pw_below_drewN | apply below_drew1 | refine below_set ?_ (IsS87.ge HI613.out) | refine below_set ?_ GE609.out) | exact HB.out)) hb); have n3_ := Aside0.mk (hbox); have n4_ := Aside0.mk ((by rw [hg]; exact (below_size (by repeat (first | (with_reducible first | exact HB.out | apply below_alloc | apply pw_below_drewN | apply below_drew1 | refine below_set ?_ (IsS87.ge HI613.out) | refine below_set ?_ GE609.out) | exact HB.out))) : w.heap.size ≤ gb620)); have n5_ := Aside0.mk ((by rw [hg]; exact (below_size (by repeat (first | (with_reducible first | exact HB.out | apply below_alloc | apply pw_below_drewN | apply below_drew1 | refine below_set ?_ (IsS87.ge HI613.out) | refine below_set ?_ GE609.out) | exact HB.out))) : w.heap.size ≤ gb620)); have n6_ := Aside0.mk ((by rw [hg]; exact Nat.ne_of_lt (blk_lt (g := gb609) (o := .cells #[.int .i64 0, .slice none 0 0, .bool false] 27 (0, 0)) (by (with_reducible repeat (first | refine blk_drewN ?_ _ | refine blk_drew ?_ | refine blk_alloc ?_ _)); exact BK609.out)) : gb609 ≠ gb620)); have n7_ := Aside0.mk ((by rw [hg]; exact Nat.ne_of_gt (blk_lt (g := gb609) (o := .cells #[.int .i64 0, .slice none 0 0, .bool false] 27 (0, 0)) (by (with_reducible repeat (first | refine blk_drewN ?_ _ | refine blk_drew ?_ | refine blk_alloc ?_ _)); exact BK609.out)) : gb620 ≠ gb609)); have n8_ := Aside0.mk ((by rw [hg]; exact Nat.ne_of_lt (IsS87.lt (show IsS87 w _ g613 t610 t618 t619 from by repeat (first | (with_reducible first | exact HI613.out | apply IsS87.alloc | apply IsS87.drewN | apply IsS87.drew | apply IsS87.set_1 | apply IsS87.set_2 | refine IsS87.far ?_ NB613_609.out _) | exact HI613.out))) : g613 ≠ gb620)); have n9_ := Aside0.mk ((by rw [hg]; exact Nat.ne_of_gt (IsS87.lt (show IsS87 w _ g613 t610 t618 t619 from by repeat (first | (with_reducible first | exact HI613.out | apply IsS87.alloc | apply IsS87.drewN | apply IsS87.drew | apply IsS87.set_1 | apply IsS87.set_2 | refine IsS87.far ?_ NB613_609.out _) | exact HI613.out))) : gb620 ≠ g613)); clear BK609; clear HI613; clear HB; have BK609 := n0_; have HI613 := n1_; have HB := n2_; have BK620 := n3_; have GW620 := n4_; have GE620 := n5_; have NB609_620 := n6_; have NB620_609 := n7_; have NB613_620 := n8_; have NB620_613 := n9_; clear n0_ n1_ n2_ n3_ n4_ n5_ n6_ n7_ n8_ n9_; clear hb hbox hg; have hnb11 := NB620_609.out; have hnc11 := NB609_620.out; have hnb12 := NB620_613.out; have hnc12 := NB613_620.out; have hcz13_0 : w10.cell? ⟨gb620, 0, none⟩ = some (.int .i64 0) := (blk_cell BK620.out 0).trans rfl; have hcz13_1 : w10.cell? ⟨gb620, 1, none⟩ = some (.slice none 0 0) := (blk_cell BK620.out 1).trans rfl; have hcz13_2 : w10.cell? ⟨gb620, 2, none⟩ = some (.bool false) := (blk_cell BK620.out 2).trans rfl; have hfz13_0 := blk_frozen BK620.out 0; have hfz13_1 := blk_frozen BK620.out 1; have hfz13_2 := blk_frozen BK620.out 2) | ((with_reducible refine gate_callee (f := 56) rfl ?_); refine goesL_ (some 16) rfl rfl Try.func56 (by kernel_rfl) rfl #[.pointer (some ⟨g613, 0, none⟩), .int .i64 16] rfl (by (try simp only [List.map_toArray, List.map_cons, List.map_nil]); first | done | rfl | (simp only [List.length_drop, List.length_take]; rfl)) ?_; (with_reducible refine (record_reader_many.calls k g613 t610 t618 t619 16 t621 t622 t623 w _ ?side1 ?side2 A5.out).mono ?_); (case side1 => repeat (first | (with_reducible first | exact HI613.out | apply IsS87.alloc | apply IsS87.drewN | apply IsS87.drew | apply IsS87.set_1 | apply IsS87.set_2 | refine IsS87.far ?_ NB613_609.out _ | refine IsS87.far ?_ NB613_620.out _) | exact HI613.out)); (case side2 => repeat (first | (with_reducible first | exact HB.out | apply below_alloc | apply pw_below_drewN | apply below_drew1 | refine below_set ?_ (IsS87.ge HI613.out) | refine below_set ?_ GE609.out | refine below_set ?_ GE620.out) | exact HB.out)); rintro e w14 ⟨rfl, hi, hb, hk⟩; refine ⟨_, rfl, ?_⟩; have n0_ := Aside0.mk (KeepBut.blk hk (g' := gb609) (o := .cells #[.int .i64 0, .slice none 0 0, .bool false] 27 (0, 0)) (by (with_reducible repeat (first | refine blk_drewN ?_ _ | refine blk_drew ?_ | refine blk_alloc ?_ _)); refine blk_far ?_ NB609_620.out _; (with_reducible repeat (first | refine blk_drewN ?_ _ | refine blk_drew ?_ | refine blk_alloc ?_ _)); refine blk_far ?_ NB609_620.out _; (with_reducible repeat (first | refine blk_drewN ?_ _ | refine blk_drew ?_ | refine blk_alloc ?_ _)); refine blk_far ?_ NB609_620.out _; (with_reducible repeat (first | refine blk_drewN ?_ _ | refine blk_drew ?_ | refine blk_alloc ?_ _)); exact BK609.out) NB609_613.out (by simp)); have n1_ := Aside0.mk (KeepBut.blk hk (g' := gb620) (o := .cells #[.int .i64 t614, .slice none 0 0, .bool t617] 27 (0, 0)) (by (with_reducible repeat (first | refine blk_drewN ?_ _ | refine blk_drew ?_ | refine blk_alloc ?_ _)); refine blk_put (cs := #[.int .i64 t614, .slice none 0 0, .bool false]) ?_ 2 _ rfl; (with_reducible repeat (first | refine blk_drewN ?_ _ | refine blk_drew ?_ | refine blk_alloc ?_ _)); refine blk_put (cs := #[.int .i64 t614, .slice none 0 0, .bool false]) ?_ 1 _ rfl; (with_reducible repeat (first | refine blk_drewN ?_ _ | refine blk_drew ?_ | refine blk_alloc ?_ _)); refine blk_put (cs := #[.int .i64 0, .slice none 0 0, .bool false]) ?_ 0 _ rfl; (with_reducible repeat (first | refine blk_drewN ?_ _ | refine blk_drew ?_ | refine blk_alloc ?_ _)); exact BK620.out) NB620_613.out (by simp)); have n2_ := Aside0.mk (hb); have n3_ := Aside0.mk (hi); clear BK609; clear BK620; clear HB; clear HI613; have BK609 := n0_; have BK620 := n1_; have HB := n2_; have HI613 := n3_; clear n0_ n1_ n2_ n3_; (try clear hb); (try clear hb2); (try clear hk); (try clear hi)))
  go_loopg [17] k (fun kq v17 w' => ∃ (x17_1 : Int) (x614001_1 : Int) (x614002_1 : Int) (x621001_1 : List (S74)) (u621001 : Value), v17 = .int .i64 x17_1 ∧ Aside0 (record_TakeChunk.l0 kq t621 x17_1 t610 x614001_1 x614002_1 t614 x621001_1 t617 = some (r1, r2, r3, r4)) ∧ Aside0 (kq ≤ k) ∧ Aside0 (Kd.R k74 74 w' w.heap.size (fun _ => True) u621001 x621001_1) ∧ Aside0 (w'.heap[gb609]? = some (.cells #[.int .i64 0, (.slice none 0 0), .bool false] 27 (0, 0))) ∧ Aside0 (w'.heap[gb620]? = some (.cells #[.int .i64 t614, u621001, .bool t617] 27 (0, 0))) ∧ Aside0 (IsS87 w w' g613 t610 x614001_1 x614002_1) ∧ Aside0 (Below w.heap.size w w'))
  case atStart => exact ⟨(0), (t622), (t623), (([] : List (S74))), (.slice none 0 0), (by first | rfl | (simp; done) | (simp [*]; done)), H', ⟨Nat.le_refl _⟩, ⟨by first | exact Kd.R_nil _ _ _ _ _ | exact Kd.N_nil _ _ _ _ _ | exact Kd.V_nil _ _ _ _ _ | exact Kd.Q_nil _ _ _ _ _ | exact Kd.S_nil _ _ _ _ _⟩, ⟨by (with_reducible repeat (first | refine blk_drewN ?_ _ | refine blk_drew ?_ | refine blk_alloc ?_ _)); exact BK609.out⟩, ⟨by (with_reducible repeat (first | refine blk_drewN ?_ _ | refine blk_drew ?_ | refine blk_alloc ?_ _)); exact BK620.out⟩, ⟨by repeat (first | (with_reducible first | exact HI613.out | apply IsS87.alloc | apply IsS87.drewN | apply IsS87.drew | apply IsS87.set_1 | apply IsS87.set_2 | refine IsS87.far ?_ NB613_609.out _ | refine IsS87.far ?_ NB613_620.out _) | exact HI613.out)⟩, ⟨by repeat (first | (with_reducible first | exact HB.out | apply below_alloc | apply pw_below_drewN | apply below_drew1 | refine below_set ?_ (IsS87.ge HI613.out) | refine below_set ?_ GE609.out | refine below_set ?_ GE620.out) | exact HB.out)⟩⟩
  case round =>
    clear H'
    try clear c1
    try clear p2
    try clear c3
    try clear c5
    try clear c6
    try clear c11
    try clear c12
    try clear hcz13_0
    try clear hcz13_1
    try clear hcz13_2
    try clear hfz13_0
    try clear hfz13_1
    try clear hfz13_2
    obtain ⟨x17_1, x614001_1, x614002_1, x621001_1, u621001, rfl, HA, HK1, HO_621001, BK609, BK620, HI613, HB⟩ := hrel
    cases gk with
    | zero => exact absurd HA.out (by simp [record_TakeChunk.l0])
    | succ k1 =>
      have H := HA.out
      clear HA
      simp only [record_TakeChunk.l0] at H
      by_cases c15 : x17_1 < t621
      · rw [if_pos c15] at H
        have c15b0 : decide (x17_1 < t621) = true := decide_eq_true c15
        clear c15
        replace H := Option.bind_eq_some_iff.mp H
        obtain ⟨⟨t624, t625, t626⟩, A160, H⟩ := H
        replace H : ((record_reader_text.f k1 t610 t625 t626).bind fun bt627 => ((record_reader_num.f k1 t610 bt627.2.1 bt627.2.2).bind fun bt630 => (if x621001_1.length < 3518437208883 then (record_TakeChunk.l0 k1 t621 (wrap64 (x17_1 + 1)) t610 bt630.2.1 bt630.2.2 t614 (x621001_1 ++ [(⟨t624, bt627.1, bt630.1⟩ : S74)]) t617) else (none)))) = some (r1, r2, r3, r4) := H
        have A16 := Aside0.mk A160
        clear A160
        replace H := Option.bind_eq_some_iff.mp H
        obtain ⟨⟨t627, t628, t629⟩, A170, H⟩ := H
        replace H : ((record_reader_num.f k1 t610 t628 t629).bind fun bt630 => (if x621001_1.length < 3518437208883 then (record_TakeChunk.l0 k1 t621 (wrap64 (x17_1 + 1)) t610 bt630.2.1 bt630.2.2 t614 (x621001_1 ++ [(⟨t624, t627, bt630.1⟩ : S74)]) t617) else (none))) = some (r1, r2, r3, r4) := H
        have A17 := Aside0.mk A170
        clear A170
        replace H := Option.bind_eq_some_iff.mp H
        obtain ⟨⟨t630, t631, t632⟩, A180, H⟩ := H
        replace H : (if x621001_1.length < 3518437208883 then (record_TakeChunk.l0 k1 t621 (wrap64 (x17_1 + 1)) t610 t631 t632 t614 (x621001_1 ++ [(⟨t624, t627, t630⟩ : S74)]) t617) else (none)) = some (r1, r2, r3, r4) := H
        have A18 := Aside0.mk A180
        clear A180
        by_cases c19 : x621001_1.length < 3518437208883
        · rw [if_pos c19] at H
          have LMc19 := Aside0.mk c19
          clear c19
          obtain ⟨y633, hy633⟩ : ∃ y_ : List (S74), y_ = (x621001_1 ++ [(⟨t624, t627, t630⟩ : S74)]) := ⟨_, rfl⟩
          replace H : (record_TakeChunk.l0 k1 t621 (wrap64 (x17_1 + 1)) t610 t631 t632 t614 y633 t617) = some (r1, r2, r3, r4) := by first | (rw [hy633]; with_reducible exact H) | (have H2_ := (Option.bind_some _ _).symm.trans H; rw [hy633]; with_reducible exact H2_) | (have H2_ := (Option.bind_some _ _).symm.trans H; with_reducible exact H2_) | with_reducible exact H | (rw [hy633]; exact H) | exact H
          have Ny633 := Aside0.mk hy633
          clear hy633
          have H' := Aside0.mk H
          clear H
          try go_wp2
          have n0_ := Aside0.mk (Kd.R_drew HO_621001.out)
          have n1_ := Aside0.mk (blk_drew BK609.out)
          have n2_ := Aside0.mk (blk_drew BK620.out)
          have n3_ := Aside0.mk (IsS87.drew HI613.out)
          have n4_ := Aside0.mk (below_drew1 HB.out)
          clear HO_621001
          clear BK609
          clear BK620
          clear HI613
          clear HB
          have HO_621001 := n0_
          have BK609 := n1_
          have BK620 := n2_
          have HI613 := n3_
          have HB := n4_
          clear n0_ n1_ n2_ n3_ n4_
          refine start_ (n := 13) (S := fun w' => w'.cell? ⟨gb620, 0, none⟩ = some (.int .i64 t614) ∧ w'.cell? ⟨gb620, 1, none⟩ = some (u621001) ∧ w'.cell? ⟨gb620, 2, none⟩ = some (.bool t617)) (ds := [12]) #[false, false, false, false, false, false, false, false, false, false, false, false, false] (by kernel_rfl) rfl rfl ⟨(blk_cell BK620.out 0).trans rfl, (blk_cell BK620.out 1).trans rfl, (blk_cell BK620.out 2).trans rfl⟩ (fun hHeld => ?_); refine with_tabW record_TakeChunk.tab5 record_TakeChunk.bits5 (fun HT_ HW_ => ?_)
          generalize wr.drew = w20 at HO_621001 BK609 BK620 HI613 HB hHeld ⊢
          refine pure_ (i := 0) (N := some 19) (v := ?_) (a' := ?_) #[true, false, false, false, false, false, false, false, false, false, false, false, false] rfl rfl (any_of HT_.out (by kernel_rfl)) (fun _ _ _ h => h) (Or.inl ⟨by rfl, ?_⟩) ?_ ?_
          rotate_left
          · intro w'
            go_simp
            with_reducible rfl
          rotate_left
          · simp only [Act.put, List.setIfInBounds_toArray, List.set_cons_zero, List.set_cons_succ, i64_w, i32_w]
            rfl
          refine pure_ (i := 2) (N := some 21) (v := ?_) (a' := ?_) #[true, false, true, false, false, false, false, false, false, false, false, false, false] rfl rfl (any_of HT_.out (by kernel_rfl)) (fun _ _ _ h => h) (Or.inl ⟨by rfl, ?_⟩) ?_ ?_
          rotate_left
          · intro w'
            go_simp
            with_reducible rfl
          rotate_left
          · simp only [Act.put, List.setIfInBounds_toArray, List.set_cons_zero, List.set_cons_succ, i64_w, i32_w]
            rfl
          refine pure_ (i := 4) (N := some 23) (v := ?_) (a' := ?_) #[true, false, true, false, true, false, false, false, false, false, false, false, false] rfl rfl (any_of HT_.out (by kernel_rfl)) (fun _ _ _ h => h) (Or.inl ⟨by rfl, ?_⟩) ?_ ?_
          rotate_left
          · intro w'
            go_simp
            with_reducible rfl
          rotate_left
          · simp only [Act.put, List.setIfInBounds_toArray, List.set_cons_zero, List.set_cons_succ, i64_w, i32_w]
            rfl
          refine pure_ (i := 6) (N := some 25) (v := ?_) (a' := ?_) #[true, false, true, false, true, false, true, false, false, false, false, false, false] rfl rfl (any_of HT_.out (by kernel_rfl)) (fun _ _ _ h => h) (Or.inl ⟨by rfl, ?_⟩) ?_ ?_
          rotate_left
          · intro w'
            go_simp
            with_reducible rfl
          rotate_left
          · simp only [Act.put, List.setIfInBounds_toArray, List.set_cons_zero, List.set_cons_succ, i64_w, i32_w]
            rfl
          refine take_ (i := 1) (N := some 20) (v := ?_) (a' := ?_) #[true, true, true, false, true, false, true, false, false, false, false, false, false] rfl rfl (take_ofW HT_.out HW_.out (by kernel_rfl)) (fun _ _ _ h => h) (Or.inl ⟨by rfl, ?_⟩) hHeld ?_ ?_
          rotate_left
          · rintro w' ⟨s0, s1, s2⟩
            go_simp
            with_reducible rfl
          rotate_left
          · simp only [Act.put, List.setIfInBounds_toArray, List.set_cons_zero, List.set_cons_succ, i64_w, i32_w]
            rfl
          refine one_ (i := 3) (N := some 22) #[true, true, true, true, true, false, true, false, false, false, false, false, false] rfl rfl (one_of HT_.out (by kernel_rfl)) (by decide) (fun K hK => ?_)
          refine goes_ Try.func67 (by kernel_rfl) rfl #[.pointer (some ⟨g613, 0, none⟩)] (by rfl) rfl rfl (by (try simp only [List.map_toArray, List.map_cons, List.map_nil]); first | done | rfl | (simp only [List.length_drop, List.length_take]; rfl)) ?_
          with_reducible refine (record_reader_text.calls k1 g613 t610 x614001_1 x614002_1 t624 t625 t626 w _ ?side1 ?side2 A16.out).mono ?_
          (case side1 => repeat (first | (with_reducible first | exact HI613.out | apply IsS87.alloc | apply IsS87.drewN | apply IsS87.drew | apply IsS87.set_1 | apply IsS87.set_2 | refine IsS87.far ?_ NB613_609.out _ | refine IsS87.far ?_ NB613_620.out _) | exact HI613.out))
          (case side2 => repeat (first | (with_reducible first | exact HB.out | apply below_alloc | apply pw_below_drewN | apply below_drew1 | refine below_set ?_ (IsS87.ge HI613.out) | refine below_set ?_ GE609.out | refine below_set ?_ GE620.out) | exact HB.out))
          rintro e w21 ⟨rfl, hi, hb, hk⟩
          refine ⟨_, rfl, ?_⟩
          have n0_ := Aside0.mk (Kd.R_mono (Kd.R_keep (IsS87.apart (show IsS87 w _ g613 t610 x614001_1 x614002_1 from by repeat (first | (with_reducible first | exact HI613.out | apply IsS87.alloc | apply IsS87.drewN | apply IsS87.drew | apply IsS87.set_1 | apply IsS87.set_2 | refine IsS87.far ?_ NB613_609.out _ | refine IsS87.far ?_ NB613_620.out _) | exact HI613.out)) (by (with_reducible repeat (first | apply Kd.R_alloc | apply Kd.R_drewN | apply Kd.R_drew)); exact HO_621001.out) (by decide)) hk (fun _ h => h.2)) (fun _ h => h.1))
          have n1_ := Aside0.mk (KeepBut.blk hk (g' := gb609) (o := .cells #[.int .i64 0, .slice none 0 0, .bool false] 27 (0, 0)) (by (with_reducible repeat (first | refine blk_drewN ?_ _ | refine blk_drew ?_ | refine blk_alloc ?_ _)); exact BK609.out) NB609_613.out (by simp))
          have n2_ := Aside0.mk (KeepBut.blk hk (g' := gb620) (o := .cells #[.int .i64 t614, u621001, .bool t617] 27 (0, 0)) (by (with_reducible repeat (first | refine blk_drewN ?_ _ | refine blk_drew ?_ | refine blk_alloc ?_ _)); exact BK620.out) NB620_613.out (by simp))
          have n3_ := Aside0.mk (hb)
          have n4_ := Aside0.mk (hi)
          clear HO_621001
          clear BK609
          clear BK620
          clear HB
          clear HI613
          have HO_621001 := n0_
          have BK609 := n1_
          have BK620 := n2_
          have HB := n3_
          have HI613 := n4_
          clear n0_ n1_ n2_ n3_ n4_
          (try clear hb)
          (try clear hb2)
          (try clear hk)
          (try clear hi)
          refine hK.out _ _ ⟨(blk_cell BK620.out 0).trans rfl, (blk_cell BK620.out 1).trans rfl, (blk_cell BK620.out 2).trans rfl⟩ (fun hHeld => ?_)
          clear hK K
          refine norm_ (a' := ?_) ?_ ?_
          rotate_left
          · show Act.put _ (some 22) _ = _
            simp only [Act.put, List.setIfInBounds_toArray, List.set_cons_zero, List.set_cons_succ, i64_w, i32_w]
            rfl
          refine one_ (i := 5) (N := some 24) #[true, true, true, true, true, true, true, false, false, false, false, false, false] rfl rfl (one_of HT_.out (by kernel_rfl)) (by decide) (fun K hK => ?_)
          refine goes_ Try.func67 (by kernel_rfl) rfl #[.pointer (some ⟨g613, 0, none⟩)] (by rfl) rfl rfl (by (try simp only [List.map_toArray, List.map_cons, List.map_nil]); first | done | rfl | (simp only [List.length_drop, List.length_take]; rfl)) ?_
          with_reducible refine (record_reader_text.calls k1 g613 t610 t625 t626 t627 t628 t629 w _ ?side1 ?side2 A17.out).mono ?_
          (case side1 => repeat (first | (with_reducible first | exact HI613.out | apply IsS87.alloc | apply IsS87.drewN | apply IsS87.drew | apply IsS87.set_1 | apply IsS87.set_2 | refine IsS87.far ?_ NB613_609.out _ | refine IsS87.far ?_ NB613_620.out _) | exact HI613.out))
          (case side2 => repeat (first | (with_reducible first | exact HB.out | apply below_alloc | apply pw_below_drewN | apply below_drew1 | refine below_set ?_ (IsS87.ge HI613.out) | refine below_set ?_ GE609.out | refine below_set ?_ GE620.out) | exact HB.out))
          rintro e w22 ⟨rfl, hi, hb, hk⟩
          refine ⟨_, rfl, ?_⟩
          have n0_ := Aside0.mk (Kd.R_mono (Kd.R_keep (IsS87.apart (show IsS87 w _ g613 t610 t625 t626 from by repeat (first | (with_reducible first | exact HI613.out | apply IsS87.alloc | apply IsS87.drewN | apply IsS87.drew | apply IsS87.set_1 | apply IsS87.set_2 | refine IsS87.far ?_ NB613_609.out _ | refine IsS87.far ?_ NB613_620.out _) | exact HI613.out)) (by (with_reducible repeat (first | apply Kd.R_alloc | apply Kd.R_drewN | apply Kd.R_drew)); exact HO_621001.out) (by decide)) hk (fun _ h => h.2)) (fun _ h => h.1))
          have n1_ := Aside0.mk (KeepBut.blk hk (g' := gb609) (o := .cells #[.int .i64 0, .slice none 0 0, .bool false] 27 (0, 0)) (by (with_reducible repeat (first | refine blk_drewN ?_ _ | refine blk_drew ?_ | refine blk_alloc ?_ _)); exact BK609.out) NB609_613.out (by simp))
          have n2_ := Aside0.mk (KeepBut.blk hk (g' := gb620) (o := .cells #[.int .i64 t614, u621001, .bool t617] 27 (0, 0)) (by (with_reducible repeat (first | refine blk_drewN ?_ _ | refine blk_drew ?_ | refine blk_alloc ?_ _)); exact BK620.out) NB620_613.out (by simp))
          have n3_ := Aside0.mk (hb)
          have n4_ := Aside0.mk (hi)
          clear HO_621001
          clear BK609
          clear BK620
          clear HB
          clear HI613
          have HO_621001 := n0_
          have BK609 := n1_
          have BK620 := n2_
          have HB := n3_
          have HI613 := n4_
          clear n0_ n1_ n2_ n3_ n4_
          (try clear hb)
          (try clear hb2)
          (try clear hk)
          (try clear hi)
          refine hK.out _ _ ⟨(blk_cell BK620.out 0).trans rfl, (blk_cell BK620.out 1).trans rfl, (blk_cell BK620.out 2).trans rfl⟩ (fun hHeld => ?_)
          clear hK K
          refine norm_ (a' := ?_) ?_ ?_
          rotate_left
          · show Act.put _ (some 24) _ = _
            simp only [Act.put, List.setIfInBounds_toArray, List.set_cons_zero, List.set_cons_succ, i64_w, i32_w]
            rfl
          refine one_ (i := 7) (N := some 26) #[true, true, true, true, true, true, true, true, false, false, false, false, false] rfl rfl (one_of HT_.out (by kernel_rfl)) (by decide) (fun K hK => ?_)
          refine goes_ Try.func55 (by kernel_rfl) rfl #[.pointer (some ⟨g613, 0, none⟩)] (by rfl) rfl rfl (by (try simp only [List.map_toArray, List.map_cons, List.map_nil]); first | done | rfl | (simp only [List.length_drop, List.length_take]; rfl)) ?_
          with_reducible refine (record_reader_num.calls k1 g613 t610 t628 t629 t630 t631 t632 w _ ?side1 ?side2 A18.out).mono ?_
          (case side1 => repeat (first | (with_reducible first | exact HI613.out | apply IsS87.alloc | apply IsS87.drewN | apply IsS87.drew | apply IsS87.set_1 | apply IsS87.set_2 | refine IsS87.far ?_ NB613_609.out _ | refine IsS87.far ?_ NB613_620.out _) | exact HI613.out))
          (case side2 => repeat (first | (with_reducible first | exact HB.out | apply below_alloc | apply pw_below_drewN | apply below_drew1 | refine below_set ?_ (IsS87.ge HI613.out) | refine below_set ?_ GE609.out | refine below_set ?_ GE620.out) | exact HB.out))
          rintro e w23 ⟨rfl, hi, hb, hk⟩
          refine ⟨_, rfl, ?_⟩
          have n0_ := Aside0.mk (Kd.R_mono (Kd.R_keep (IsS87.apart (show IsS87 w _ g613 t610 t628 t629 from by repeat (first | (with_reducible first | exact HI613.out | apply IsS87.alloc | apply IsS87.drewN | apply IsS87.drew | apply IsS87.set_1 | apply IsS87.set_2 | refine IsS87.far ?_ NB613_609.out _ | refine IsS87.far ?_ NB613_620.out _) | exact HI613.out)) (by (with_reducible repeat (first | apply Kd.R_alloc | apply Kd.R_drewN | apply Kd.R_drew)); exact HO_621001.out) (by decide)) hk (fun _ h => h.2)) (fun _ h => h.1))
          have n1_ := Aside0.mk (KeepBut.blk hk (g' := gb609) (o := .cells #[.int .i64 0, .slice none 0 0, .bool false] 27 (0, 0)) (by (with_reducible repeat (first | refine blk_drewN ?_ _ | refine blk_drew ?_ | refine blk_alloc ?_ _)); exact BK609.out) NB609_613.out (by simp))
          have n2_ := Aside0.mk (KeepBut.blk hk (g' := gb620) (o := .cells #[.int .i64 t614, u621001, .bool t617] 27 (0, 0)) (by (with_reducible repeat (first | refine blk_drewN ?_ _ | refine blk_drew ?_ | refine blk_alloc ?_ _)); exact BK620.out) NB620_613.out (by simp))
          have n3_ := Aside0.mk (hb)
          have n4_ := Aside0.mk (hi)
          clear HO_621001
          clear BK609
          clear BK620
          clear HB
          clear HI613
          have HO_621001 := n0_
          have BK609 := n1_
          have BK620 := n2_
          have HB := n3_
          have HI613 := n4_
          clear n0_ n1_ n2_ n3_ n4_
          (try clear hb)
          (try clear hb2)
          (try clear hk)
          (try clear hi)
          refine hK.out _ _ ⟨(blk_cell BK620.out 0).trans rfl, (blk_cell BK620.out 1).trans rfl, (blk_cell BK620.out 2).trans rfl⟩ (fun hHeld => ?_)
          clear hK K
          refine norm_ (a' := ?_) ?_ ?_
          rotate_left
          · show Act.put _ (some 26) _ = _
            simp only [Act.put, List.setIfInBounds_toArray, List.set_cons_zero, List.set_cons_succ, i64_w, i32_w]
            rfl
          refine pure_ (i := 8) (N := some 27) (v := ?_) (a' := ?_) #[true, true, true, true, true, true, true, true, true, false, false, false, false] rfl rfl (any_of HT_.out (by kernel_rfl)) (fun _ _ _ h => h) (Or.inl ⟨by rfl, ?_⟩) ?_ ?_
          rotate_left
          · intro w'
            go_simp
            with_reducible rfl
          rotate_left
          · simp only [Act.put, List.setIfInBounds_toArray, List.set_cons_zero, List.set_cons_succ, i64_w, i32_w]
            rfl
          refine one_ (i := 9) (N := some 28) #[true, true, true, true, true, true, true, true, true, true, false, false, false] rfl rfl (one_of HT_.out (by kernel_rfl)) (by decide) (fun K hK => ?_)
          refine value_ (w1 := ?_) (v := ?_) (by rfl) rfl ?_ ?_
          rotate_left 2
          · go_simp
            constructor
            · rfl
            · rfl
          refine hK.out _ _ ⟨(blk_cell (blk_alloc BK620.out _) 0).trans rfl, (blk_cell (blk_alloc BK620.out _) 1).trans rfl, (blk_cell (blk_alloc BK620.out _) 2).trans rfl⟩ (fun hHeld => ?_)
          clear hK K
          refine norm_ (a' := ?_) ?_ ?_
          rotate_left
          · show Act.put _ (some 28) _ = _
            simp only [Act.put, List.setIfInBounds_toArray, List.set_cons_zero, List.set_cons_succ, i64_w, i32_w]
            rfl
          refine one_ (i := 10) (N := some 29) #[true, true, true, true, true, true, true, true, true, true, true, false, false] rfl rfl (one_of HT_.out (by kernel_rfl)) (by decide) (fun K hK => ?_)
          refine Kd.R_append_step k74 (w0 := w) w.heap.size (by rfl) (.tmp 20) (.tmp 28) 25 74 (.agg #[(.string ⟨#[]⟩), (.string ⟨#[]⟩), (.int .i64 0)]) 40 rfl Try.underlying25 info74 rfl (by decide) (by omega) u621001 x621001_1 (⟨t624, t627, t630⟩ : S74) [.string t624, .string t627, .int .i64 t630] (fun _ => True) (fun _ => False) rfl rfl ?aP (fun _ hk => hk.elim) ?aF ?aO ?aB ?aS ?aL ?_
          (case aP => exact k74_mkM _ _ _ (⟨t624, t627, t630⟩ : S74))
          (case aB => exact (by repeat (first | (with_reducible first | exact HB.out | apply below_alloc | apply pw_below_drewN | apply below_drew1 | refine below_set ?_ (IsS87.ge HI613.out) | refine below_set ?_ GE609.out | refine below_set ?_ GE620.out) | exact HB.out)))
          (case aF => exact (fun _ _ => trivial))
          (case aO => exact (by (with_reducible repeat (first | apply Kd.R_alloc | apply Kd.R_drewN | apply Kd.R_drew)); exact HO_621001.out))
          (case aS => exact (below_size (by repeat (first | (with_reducible first | exact HB.out | apply below_alloc | apply pw_below_drewN | apply below_drew1 | refine below_set ?_ (IsS87.ge HI613.out) | refine below_set ?_ GE609.out | refine below_set ?_ GE620.out) | exact HB.out))))
          (case aL => have := LMc19.out; omega)
          intro v634 w24 ho hb hg hat
          rw [← Ny633.out] at ho
          have n0_ := Aside0.mk (blk_grown (g := gb609) (o := .cells #[.int .i64 0, .slice none 0 0, .bool false] 27 (0, 0)) (by (with_reducible repeat (first | refine blk_drewN ?_ _ | refine blk_drew ?_ | refine blk_alloc ?_ _)); exact BK609.out) hg (Kd.R_ne HO_621001.out BK609.out (by decide)))
          have n1_ := Aside0.mk (blk_grown (g := gb620) (o := .cells #[.int .i64 t614, u621001, .bool t617] 27 (0, 0)) (by (with_reducible repeat (first | refine blk_drewN ?_ _ | refine blk_drew ?_ | refine blk_alloc ?_ _)); exact BK620.out) hg (Kd.R_ne HO_621001.out BK620.out (by decide)))
          have n2_ := Aside0.mk (IsS87.grown (by repeat (first | (with_reducible first | exact HI613.out | apply IsS87.alloc | apply IsS87.drewN | apply IsS87.drew | apply IsS87.set_1 | apply IsS87.set_2 | refine IsS87.far ?_ NB613_609.out _ | refine IsS87.far ?_ NB613_620.out _) | exact HI613.out)) hg (IsS87.own_ne HI613.out HO_621001.out (by decide)))
          have n3_ := Aside0.mk (hb)
          have n4_ := Aside0.mk (ho)
          clear BK609
          clear BK620
          clear HI613
          clear HB
          clear HO_621001
          have BK609 := n0_
          have BK620 := n1_
          have HI613 := n2_
          have HB := n3_
          have HO635 := n4_
          clear n0_ n1_ n2_ n3_ n4_
          clear ho hb hg hat
          obtain ⟨Ao25, co25, eo25⟩ := Kd.R_slice HO635.out
          (first | subst eo25 | (injection eo25 with f1_ f2_ f3_; have f4_ := f1_.symm; have f5_ := f3_.symm; clear f1_ f2_ f3_; subst f4_; subst f5_))
          refine hK.out _ _ ⟨(blk_cell BK620.out 0).trans rfl, (blk_cell BK620.out 1).trans rfl, (blk_cell BK620.out 2).trans rfl⟩ (fun hHeld => ?_)
          clear hK K
          refine norm_ (a' := ?_) ?_ ?_
          rotate_left
          · show Act.put _ (some 29) _ = _
            simp only [Act.put, List.setIfInBounds_toArray, List.set_cons_zero, List.set_cons_succ, i64_w, i32_w]
            rfl
          refine pure_ (i := 11) (N := some 30) (v := ?_) (a' := ?_) #[true, true, true, true, true, true, true, true, true, true, true, true, false] rfl rfl (any_of HT_.out (by kernel_rfl)) (fun _ _ _ h => h) (Or.inl ⟨by rfl, ?_⟩) ?_ ?_
          rotate_left
          · intro w'
            go_simp
            with_reducible rfl
          rotate_left
          · simp only [Act.put, List.setIfInBounds_toArray, List.set_cons_zero, List.set_cons_succ, i64_w, i32_w]
            rfl
          refine last_ (i := 12) (N := none) #[true, true, true, true, true, true, true, true, true, true, true, true, true] rfl rfl (one_of HT_.out (by kernel_rfl)) (by decide) (fun K hK => ?_)
          have hs26 : w24.cell? ⟨gb620, 1, none⟩ = some (u621001) := (blk_cell BK620.out 1).trans rfl
          have hfs26 := blk_frozen BK620.out 1
          have hns26_0 := NB609_620.out
          have hms26_0 := NB620_609.out
          refine skip_ (w1 := ?_) (by rfl) rfl ?_ ?_
          rotate_left
          · go_simp
            rfl
          refine hK.out _ _ ?_
          clear hK K
          refine done_ (done_of HT_.out (by kernel_rfl)) ?_
          try go_wp2
          go_roundg k1
          case measure => have := HK1.out; omega
          case rel => exact ⟨(wrap64 (x17_1 + 1)), (t631), (t632), (y633), (.slice Ao25 y633.length co25), (by first | rfl | (simp; done) | (simp [*]; done)), H', ⟨by have := HK1.out; omega⟩, ⟨by (with_reducible repeat (first | apply Kd.R_alloc | apply Kd.R_drewN | apply Kd.R_drew)); exact Kd.R_mono (Kd.R_far (p := ⟨gb620, 1, none⟩) (Kd.R_types HO635.out BK620.out (by decide)) (fun _ hk => hk.2) (.slice Ao25 y633.length co25)) (fun _ hk => trivial)⟩, ⟨by (with_reducible repeat (first | refine blk_drewN ?_ _ | refine blk_drew ?_ | refine blk_alloc ?_ _)); refine blk_far ?_ NB609_620.out _; (with_reducible repeat (first | refine blk_drewN ?_ _ | refine blk_drew ?_ | refine blk_alloc ?_ _)); exact BK609.out⟩, ⟨by (with_reducible repeat (first | refine blk_drewN ?_ _ | refine blk_drew ?_ | refine blk_alloc ?_ _)); refine blk_put (cs := #[.int .i64 t614, u621001, .bool t617]) ?_ 1 _ rfl; (with_reducible repeat (first | refine blk_drewN ?_ _ | refine blk_drew ?_ | refine blk_alloc ?_ _)); exact BK620.out⟩, ⟨by repeat (first | (with_reducible first | exact HI613.out | apply IsS87.alloc | apply IsS87.drewN | apply IsS87.drew | apply IsS87.set_1 | apply IsS87.set_2 | refine IsS87.far ?_ NB613_609.out _ | refine IsS87.far ?_ NB613_620.out _) | exact HI613.out)⟩, ⟨by repeat (first | (with_reducible first | exact HB.out | apply below_alloc | apply pw_below_drewN | apply below_drew1 | refine below_set ?_ (IsS87.ge HI613.out) | refine below_set ?_ GE609.out | refine below_set ?_ GE620.out) | exact HB.out)⟩⟩
        · rw [if_neg c19] at H
          exact absurd H (by simp)
      · rw [if_neg c15] at H
        have c15b0 : decide (x17_1 < t621) = false := decide_eq_false c15
        clear c15
        replace H := Option.bind_eq_some_iff.mp H
        obtain ⟨⟨t636, t637, t638⟩, A270, H⟩ := H
        replace H : (if t636 = 0 then (some (t614, x621001_1, t617, 0)) else (some (0, ([] : List (S74)), false, t636))) = some (r1, r2, r3, r4) := H
        have A27 := Aside0.mk A270
        clear A270
        by_cases c28 : t636 = 0
        · rw [if_pos c28] at H
          have c28b0 : (t636 == 0) = true := beq_iff_eq.mpr c28
          have c28b1 : (t636 != 0) = false := bne_eq_false_iff_eq.mpr c28
          clear c28
          simp only [Option.some.injEq, Prod.mk.injEq] at H
          obtain ⟨rfl, rfl, rfl, rfl⟩ := H
          have hnb29 := NB620_609.out
          have hnc29 := NB609_620.out
          have hnb30 := NB620_613.out
          have hnc30 := NB613_620.out
          have hcz31_0 : wr.cell? ⟨gb620, 0, none⟩ = some (.int .i64 t614) := (blk_cell BK620.out 0).trans rfl
          have hcz31_1 : wr.cell? ⟨gb620, 1, none⟩ = some (u621001) := (blk_cell BK620.out 1).trans rfl
          have hcz31_2 : wr.cell? ⟨gb620, 2, none⟩ = some (.bool t617) := (blk_cell BK620.out 2).trans rfl
          have hfz31_0 := blk_frozen BK620.out 0
          have hfz31_1 := blk_frozen BK620.out 1
          have hfz31_2 := blk_frozen BK620.out 2
          obtain ⟨Ao32, co32, eo32⟩ := Kd.R_slice HO_621001.out
          subst eo32
          go_wp2_with (first | ((with_reducible refine gate_callee (f := 58) rfl ?_); refine goesL_ (some 36) rfl rfl Try.func58 (by kernel_rfl) rfl #[.pointer (some ⟨g613, 0, none⟩), .iface 80 (.agg #[.int .i64 t614, .slice Ao32 x621001_1.length co32, .bool t617])] rfl (by (try simp only [List.map_toArray, List.map_cons, List.map_nil]); first | done | rfl | (simp only [List.length_drop, List.length_take]; rfl)) ?_; (with_reducible refine (record_reader_ends_chunk.calls k1 g613 t610 x614001_1 x614002_1 t614 _ _ x621001_1 t617 t636 t637 t638 w _ ?side1 ?side2 ?side3 ?side4 A27.out).mono ?_); (case side1 => repeat (first | (with_reducible first | exact HI613.out | apply IsS87.alloc | apply IsS87.drewN | apply IsS87.drew | apply IsS87.set_1 | apply IsS87.set_2 | refine IsS87.far ?_ NB613_609.out _ | refine IsS87.far ?_ NB613_620.out _) | exact HI613.out)); (case side2 => repeat (first | (with_reducible first | exact HB.out | apply below_alloc | apply pw_below_drewN | apply below_drew1 | refine below_set ?_ (IsS87.ge HI613.out) | refine below_set ?_ GE609.out | refine below_set ?_ GE620.out) | exact HB.out)); (case side3 => exact Kd.C_foot_own (IsS87.apart (show IsS87 w _ g613 t610 x614001_1 x614002_1 from by repeat (first | (with_reducible first | exact HI613.out | apply IsS87.alloc | apply IsS87.drewN | apply IsS87.drew | apply IsS87.set_1 | apply IsS87.set_2 | refine IsS87.far ?_ NB613_609.out _ | refine IsS87.far ?_ NB613_620.out _) | exact HI613.out)) (by (with_reducible repeat (first | apply Kd.R_alloc | apply Kd.R_drewN | apply Kd.R_drew)); exact HO_621001.out) (by decide)) (fun _ h_ => h_.2)); (case side4 => exact (Kd.R_reads' HO_621001.out).2.1); rintro e w33 ⟨rfl, hi, hb, hk⟩; refine ⟨_, rfl, ?_⟩; have n0_ := Aside0.mk (Kd.R_mono (Kd.R_keep (IsS87.apart (show IsS87 w _ g613 t610 x614001_1 x614002_1 from by repeat (first | (with_reducible first | exact HI613.out | apply IsS87.alloc | apply IsS87.drewN | apply IsS87.drew | apply IsS87.set_1 | apply IsS87.set_2 | refine IsS87.far ?_ NB613_609.out _ | refine IsS87.far ?_ NB613_620.out _) | exact HI613.out)) (by (with_reducible repeat (first | apply Kd.R_alloc | apply Kd.R_drewN | apply Kd.R_drew)); exact HO_621001.out) (by decide)) hk (fun _ h => h.2)) (fun _ h => h.1)); have n1_ := Aside0.mk (KeepBut.blk hk (g' := gb609) (o := .cells #[.int .i64 0, .slice none 0 0, .bool false] 27 (0, 0)) (by (with_reducible repeat (first | refine blk_drewN ?_ _ | refine blk_drew ?_ | refine blk_alloc ?_ _)); exact BK609.out) NB609_613.out (by simp)); have n2_ := Aside0.mk (KeepBut.blk hk (g' := gb620) (o := .cells #[.int .i64 t614, .slice Ao32 x621001_1.length co32, .bool t617] 27 (0, 0)) (by (with_reducible repeat (first | refine blk_drewN ?_ _ | refine blk_drew ?_ | refine blk_alloc ?_ _)); exact BK620.out) NB620_613.out (by simp)); have n3_ := Aside0.mk (hb); have n4_ := Aside0.mk (hi); clear HO_621001; clear BK609; clear BK620; clear HB; clear HI613; have HO_621001 := n0_; have BK609 := n1_; have BK620 := n2_; have HB := n3_; have HI613 := n4_; clear n0_ n1_ n2_ n3_ n4_; (try clear hb); (try clear hb2); (try clear hk); (try clear hi); have hcz34_0 : w33.cell? ⟨gb620, 0, none⟩ = some (.int .i64 t614) := (blk_cell BK620.out 0).trans rfl; have hcz34_1 : w33.cell? ⟨gb620, 1, none⟩ = some (.slice Ao32 x621001_1.length co32) := (blk_cell BK620.out 1).trans rfl; have hcz34_2 : w33.cell? ⟨gb620, 2, none⟩ = some (.bool t617) := (blk_cell BK620.out 2).trans rfl; have hfz34_0 := blk_frozen BK620.out 0; have hfz34_1 := blk_frozen BK620.out 1; have hfz34_2 := blk_frozen BK620.out 2; have hnb35 := NB609_613.out; have hnc35 := NB613_609.out; have hcz36_0 : w33.cell? ⟨gb609, 0, none⟩ = some (.int .i64 0) := (blk_cell BK609.out 0).trans rfl; have hcz36_1 : w33.cell? ⟨gb609, 1, none⟩ = some (.slice none 0 0) := (blk_cell BK609.out 1).trans rfl; have hcz36_2 : w33.cell? ⟨gb609, 2, none⟩ = some (.bool false) := (blk_cell BK609.out 2).trans rfl; have hfz36_0 := blk_frozen BK609.out 0; have hfz36_1 := blk_frozen BK609.out 1; have hfz36_2 := blk_frozen BK609.out 2))
          refine bodyPost_ret (results_ct rfl _ _ gb609 27 #[.int .i64 t614, .slice Ao32 x621001_1.length co32, .bool t617] (0, 0) _ rfl (by (with_reducible repeat (first | refine blk_drewN ?_ _ | refine blk_drew ?_ | refine blk_alloc ?_ _)); refine blk_put (cs := #[.int .i64 t614, .slice Ao32 x621001_1.length co32, .bool false]) ?_ 2 _ rfl; (with_reducible repeat (first | refine blk_drewN ?_ _ | refine blk_drew ?_ | refine blk_alloc ?_ _)); refine blk_put (cs := #[.int .i64 t614, .slice none 0 0, .bool false]) ?_ 1 _ rfl; (with_reducible repeat (first | refine blk_drewN ?_ _ | refine blk_drew ?_ | refine blk_alloc ?_ _)); refine blk_put (cs := #[.int .i64 0, .slice none 0 0, .bool false]) ?_ 0 _ rfl; (with_reducible repeat (first | refine blk_drewN ?_ _ | refine blk_drew ?_ | refine blk_alloc ?_ _)); exact BK609.out) Try.underlying27 rfl (by kernel_rfl)) rfl ?_
          exact ⟨_, by first | rfl | (simp [errW_none, errW_some] <;> rfl) | (simp [*, errW_none, errW_some] <;> rfl), by (with_reducible repeat (first | apply Kd.R_alloc | apply Kd.R_drewN | apply Kd.R_drew)); exact Kd.R_mono (Kd.R_far (p := ⟨gb609, 2, none⟩) (Kd.R_far (p := ⟨gb609, 1, none⟩) (Kd.R_far (p := ⟨gb609, 0, none⟩) (Kd.R_types HO_621001.out BK609.out (by decide)) (fun _ hk => hk.2) (.int .i64 t614)) (fun _ hk => hk.2) (.slice Ao32 x621001_1.length co32)) (fun _ hk => hk.2) (.bool t617)) (fun _ hk => trivial), by repeat (first | (with_reducible first | exact HB.out | apply below_alloc | apply pw_below_drewN | apply below_drew1 | refine below_set ?_ (IsS87.ge HI613.out) | refine below_set ?_ GE609.out | refine below_set ?_ GE620.out) | exact HB.out)⟩
        · rw [if_neg c28] at H
          have c28b0 : (t636 == 0) = false := beq_eq_false_iff_ne.mpr c28
          have c28b1 : (t636 != 0) = true := bne_iff_ne.mpr c28
          simp only [Option.some.injEq, Prod.mk.injEq] at H
          obtain ⟨rfl, rfl, rfl, rfl⟩ := H
          have hnb37 := NB620_609.out
          have hnc37 := NB609_620.out
          have hnb38 := NB620_613.out
          have hnc38 := NB613_620.out
          have hcz39_0 : wr.cell? ⟨gb620, 0, none⟩ = some (.int .i64 t614) := (blk_cell BK620.out 0).trans rfl
          have hcz39_1 : wr.cell? ⟨gb620, 1, none⟩ = some (u621001) := (blk_cell BK620.out 1).trans rfl
          have hcz39_2 : wr.cell? ⟨gb620, 2, none⟩ = some (.bool t617) := (blk_cell BK620.out 2).trans rfl
          have hfz39_0 := blk_frozen BK620.out 0
          have hfz39_1 := blk_frozen BK620.out 1
          have hfz39_2 := blk_frozen BK620.out 2
          obtain ⟨Ao40, co40, eo40⟩ := Kd.R_slice HO_621001.out
          subst eo40
          go_wp2_with (first | ((with_reducible refine gate_callee (f := 58) rfl ?_); refine goesL_ (some 36) rfl rfl Try.func58 (by kernel_rfl) rfl #[.pointer (some ⟨g613, 0, none⟩), .iface 80 (.agg #[.int .i64 t614, .slice Ao40 x621001_1.length co40, .bool t617])] rfl (by (try simp only [List.map_toArray, List.map_cons, List.map_nil]); first | done | rfl | (simp only [List.length_drop, List.length_take]; rfl)) ?_; (with_reducible refine (record_reader_ends_chunk.calls k1 g613 t610 x614001_1 x614002_1 t614 _ _ x621001_1 t617 t636 t637 t638 w _ ?side1 ?side2 ?side3 ?side4 A27.out).mono ?_); (case side1 => repeat (first | (with_reducible first | exact HI613.out | apply IsS87.alloc | apply IsS87.drewN | apply IsS87.drew | apply IsS87.set_1 | apply IsS87.set_2 | refine IsS87.far ?_ NB613_609.out _ | refine IsS87.far ?_ NB613_620.out _) | exact HI613.out)); (case side2 => repeat (first | (with_reducible first | exact HB.out | apply below_alloc | apply pw_below_drewN | apply below_drew1 | refine below_set ?_ (IsS87.ge HI613.out) | refine below_set ?_ GE609.out | refine below_set ?_ GE620.out) | exact HB.out)); (case side3 => exact Kd.C_foot_own (IsS87.apart (show IsS87 w _ g613 t610 x614001_1 x614002_1 from by repeat (first | (with_reducible first | exact HI613.out | apply IsS87.alloc | apply IsS87.drewN | apply IsS87.drew | apply IsS87.set_1 | apply IsS87.set_2 | refine IsS87.far ?_ NB613_609.out _ | refine IsS87.far ?_ NB613_620.out _) | exact HI613.out)) (by (with_reducible repeat (first | apply Kd.R_alloc | apply Kd.R_drewN | apply Kd.R_drew)); exact HO_621001.out) (by decide)) (fun _ h_ => h_.2)); (case side4 => exact (Kd.R_reads' HO_621001.out).2.1); rintro e w41 ⟨rfl, hi, hb, hk⟩; refine ⟨_, rfl, ?_⟩; have n0_ := Aside0.mk (Kd.R_mono (Kd.R_keep (IsS87.apart (show IsS87 w _ g613 t610 x614001_1 x614002_1 from by repeat (first | (with_reducible first | exact HI613.out | apply IsS87.alloc | apply IsS87.drewN | apply IsS87.drew | apply IsS87.set_1 | apply IsS87.set_2 | refine IsS87.far ?_ NB613_609.out _ | refine IsS87.far ?_ NB613_620.out _) | exact HI613.out)) (by (with_reducible repeat (first | apply Kd.R_alloc | apply Kd.R_drewN | apply Kd.R_drew)); exact HO_621001.out) (by decide)) hk (fun _ h => h.2)) (fun _ h => h.1)); have n1_ := Aside0.mk (KeepBut.blk hk (g' := gb609) (o := .cells #[.int .i64 0, .slice none 0 0, .bool false] 27 (0, 0)) (by (with_reducible repeat (first | refine blk_drewN ?_ _ | refine blk_drew ?_ | refine blk_alloc ?_ _)); exact BK609.out) NB609_613.out (by simp)); have n2_ := Aside0.mk (KeepBut.blk hk (g' := gb620) (o := .cells #[.int .i64 t614, .slice Ao40 x621001_1.length co40, .bool t617] 27 (0, 0)) (by (with_reducible repeat (first | refine blk_drewN ?_ _ | refine blk_drew ?_ | refine blk_alloc ?_ _)); exact BK620.out) NB620_613.out (by simp)); have n3_ := Aside0.mk (hb); have n4_ := Aside0.mk (hi); clear HO_621001; clear BK609; clear BK620; clear HB; clear HI613; have HO_621001 := n0_; have BK609 := n1_; have BK620 := n2_; have HB := n3_; have HI613 := n4_; clear n0_ n1_ n2_ n3_ n4_; (try clear hb); (try clear hb2); (try clear hk); (try clear hi); have hnb42 := NB609_613.out; have hnc42 := NB613_609.out; have hcz43_0 : w41.cell? ⟨gb609, 0, none⟩ = some (.int .i64 0) := (blk_cell BK609.out 0).trans rfl; have hcz43_1 : w41.cell? ⟨gb609, 1, none⟩ = some (.slice none 0 0) := (blk_cell BK609.out 1).trans rfl; have hcz43_2 : w41.cell? ⟨gb609, 2, none⟩ = some (.bool false) := (blk_cell BK609.out 2).trans rfl; have hfz43_0 := blk_frozen BK609.out 0; have hfz43_1 := blk_frozen BK609.out 1; have hfz43_2 := blk_frozen BK609.out 2))
          refine bodyPost_ret (results_ct rfl _ _ gb609 27 #[.int .i64 0, .slice none 0 0, .bool false] (0, 0) _ rfl (by (with_reducible repeat (first | refine blk_drewN ?_ _ | refine blk_drew ?_ | refine blk_alloc ?_ _)); refine blk_put (cs := #[.int .i64 0, .slice none 0 0, .bool false]) ?_ 2 _ rfl; (with_reducible repeat (first | refine blk_drewN ?_ _ | refine blk_drew ?_ | refine blk_alloc ?_ _)); refine blk_put (cs := #[.int .i64 0, .slice none 0 0, .bool false]) ?_ 1 _ rfl; (with_reducible repeat (first | refine blk_drewN ?_ _ | refine blk_drew ?_ | refine blk_alloc ?_ _)); refine blk_put (cs := #[.int .i64 0, .slice none 0 0, .bool false]) ?_ 0 _ rfl; (with_reducible repeat (first | refine blk_drewN ?_ _ | refine blk_drew ?_ | refine blk_alloc ?_ _)); exact BK609.out) Try.underlying27 rfl (by kernel_rfl)) rfl ?_
          exact ⟨_, by first | rfl | (simp [errW_none, errW_some] <;> rfl) | (simp [*, errW_none, errW_some] <;> rfl), by first | exact Kd.R_nil _ _ _ _ _ | exact Kd.N_nil _ _ _ _ _ | exact Kd.V_nil _ _ _ _ _ | exact Kd.Q_nil _ _ _ _ _ | exact Kd.S_nil _ _ _ _ _, by repeat (first | (with_reducible first | exact HB.out | apply below_alloc | apply pw_below_drewN | apply below_drew1 | refine below_set ?_ (IsS87.ge HI613.out) | refine below_set ?_ GE609.out | refine below_set ?_ GE620.out) | exact HB.out)⟩

end Go.Proofs.Ytkcdmoghnoodmaa.B

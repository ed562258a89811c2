/-
Of the row RecordParts: printed walks and plain laws, merged (wip/claim2.py).
-/
import Derived.Test.YtkcdmoghnoodmaaQRecordParts3
import Derived.Test.YtkcdmoghnoodmaaQRecordParts6
import Derived.Test.YtkcdmoghnoodmaaQRecordParts7
import Derived.Test.YtkcdmoghnoodmaaQRecordParts10
import Derived.Test.YtkcdmoghnoodmaaQRecordParts15
import Derived.Test.YtkcdmoghnoodmaaQRecordParts16
import Derived.Test.YtkcdmoghnoodmaaQRecordParts19
set_option linter.unusedVariables false
set_option linter.unusedSimpArgs false
namespace Go.Proofs.Ytkcdmoghnoodmaa.Pa
open Go.RowKit Go.Proofs.Ytkcdmoghnoodmaa.B Go.Proofs.YtkcdmoghnoodmaaW.PrintWords Go.Proofs.YtkcdmoghnoodmaaW.PrintLast Go.Proofs.YtkcdmoghnoodmaaW.PrintMore Go.Proofs.YtkcdmoghnoodmaaW.Mine Go.Proofs.YtkcdmoghnoodmaaW.Hp
open Go.Proofs.Ytkcdmoghnoodmaa.Lib Go.Proofs.Ytkcdmoghnoodmaa.Cod Go.Proofs.Ytkcdmoghnoodmaa.Rd Go.Proofs.Ytkcdmoghnoodmaa.Wr Go.Proofs.Ytkcdmoghnoodmaa.Tk Go.Proofs.Ytkcdmoghnoodmaa.Tw

section
variable {P : Program} {ops : Array Oper} {rest : List Oper} {o : Oper} {a : Act} {Q : Exit → Act → World → Prop} {α : Type} {Kc : Act → World → Prop} {w0 W : World} {L : List (Nat × Asn)} {i p : Nat}
theorem step_append_rows (d : Kd α) (H : Hp w0 W L) (p : Nat) (hw : Region.wanted o (yielded ops a.tmps) = true) (s x : Operand) (t e : TypeId) (z : Value) (bytes : Nat)
    (ho : o.op = .call { callee := .builtin .append, args := #[s, x], argTypes := #[t, t] })
    (ht : P.underlying t = some (.slice e)) (hinfo : (P.info? e).map (fun i => (i.zero, i.size, i.bytes)) = some (some z, d.sz, bytes)) (hz : z.cells.size = d.sz) (hs0 : 0 < d.sz) (hb0 : 0 < bytes)
    (v : Value) (xs ys : List α) (A : Option Addr) (n c : Nat) (hi : L[p]? = some (i, Asn.row d e v xs)) (hn : Go.Proofs.YtkcdmoghnoodmaaW.Hp.lone i L p = true) (hs : a.eval s = v) (hx : a.eval x = .slice A n c) (HR : d.C W A n ys) (hKM : ∀ x cs, d.K W x cs → d.M W 0 (fun _ => False) x cs) (hl : (xs.length + n) * bytes ≤ 140737488355328)
    (h : ∀ v1 w1, Hp w0 w1 (L.set p (i, Asn.row d e v1 (xs ++ ys))) → Kc (a.put o.dst v1) w1) :
    if Region.wanted o (yielded ops a.tmps) = true then Oper.wp P o a W Kc Q else Kc (a.put o.dst undef) W := by
  obtain ⟨lab, hall⟩ := H.all
  exact Kd.R_append_rows_step d (w0 := w0) 0 hw s x t e z bytes ho ht hinfo hz hs0 hb0 v xs ys A n c (fun k => lab k = i ∨ W.heap.size ≤ k) (fun _ => False) hs hx (Kd.R_mono (hall.get hi) (fun _ hk => .inl hk)) HR hKM (fun _ hk => hk.elim) (fun _ hk => .inr hk) H.old0 (Nat.zero_le _) hl
    (fun v1 w1 hR hb hg _ => h v1 w1 (H.append_of hall p hi hn hR hb hg))
end
theorem takeW_both {b : List Int} (hb : Bytes b) (hl : b.length ≤ 140737488351232) : ∃ (y : S33) (sz e : Int) (m : Nat), sz = (b.length : Int) - m ∧ m ≤ b.length ∧
    (∀ (A0 : Option Addr) (c0 : Nat) (w : World), Kd.C U8 w A0 b.length b → b.length ≤ c0 → Calls Try.prog 44 #[.slice A0 b.length c0] w fun e' w' => e' = .returned (.tuple #[.agg #[.string y.f0, .string y.f1, .bool y.f2], .int .i64 sz, .int .i64 e]) ∧ Below w.heap.size w w') ∧
    (∀ (A0 : Option Addr) (c0 : Nat) (w : World), Kd.C U8 w A0 b.length b → b.length ≤ c0 → Calls Try.prog 45 #[.slice A0 b.length c0] w fun e' w' => ∃ A c, e' = .returned (.tuple #[.agg #[.string y.f0, .string y.f1, .bool y.f2], .slice A m c, .int .i64 e]) ∧ Below w.heap.size w w') := by
  have hin := RW_in hb (e := 0) (In0 b)
  by_cases he : (RW b 0 0).2.2 = 0
  · refine ⟨(RW b 0 0).1, (RW b 0 0).2.1, 0, (dr b (RW b 0 0).2.1).length, by rw [dr_len hin]; omega, by have := dr_len hin; have := hin.1; omega, fun A0 c0 w hr hc => ?_, fun A0 c0 w hr hc => ?_⟩
    · have := takeW_calls hb hl A0 c0 w hr hc
      rw [if_pos he] at this
      exact this
    · have := takeW_tr hb hl A0 c0 w hr hc
      simp only [if_pos he] at this
      exact this
  · refine ⟨⟨⟨#[]⟩, ⟨#[]⟩, false⟩, 0, (RW b 0 0).2.2, b.length, by omega, Nat.le_refl _, fun A0 c0 w hr hc => ?_, fun A0 c0 w hr hc => ?_⟩
    · have := takeW_calls hb hl A0 c0 w hr hc
      rw [if_neg he] at this
      exact this
    · have := takeW_tr hb hl A0 c0 w hr hc
      simp only [if_neg he] at this
      exact this
def paT.T11 : Bool × List (List Nat × List Nat) := (true, [([], []), ([], []), ([0, 1], [0, 1]), ([2], [2]), ([3], [3]), ([4, 3], [3, 4]), ([5, 3, 3], [3, 5]), ([6], [6]), ([7, 6], [6, 7]), ([8, 6], [6, 8]), ([6, 9, 3], [3, 6, 9]), ([3, 10], [3, 10]), ([11, 6], [11]), ([12], [12]), ([13, 12], [12, 13]), ([14, 12, 12], [12, 14]), ([15], [15]), ([15], [15]), ([17, 15, 15], [15, 17]), ([15], [15]), ([19, 18, 15], [15, 19]), ([18, 20, 20, 15], [15, 18, 20]), ([16, 21, 21, 15], [15, 16, 21]), ([22, 15], [15, 22]), ([15, 23, 12], [12, 15, 23]), ([12, 24], [12, 24])])
def paT.B11 : List Nat := [0, 0, 3, 7, 15, 31, 63, 127, 255, 511, 1023, 2047, 4095, 8191, 16383, 32767, 65535, 65535, 196607, 65535, 983039, 2031615, 4194303, 8388607, 16777215, 33554431]
theorem paT.tab11 : rtab .any (opsOf Try.f10 11) = paT.T11 := by kernel_rfl
theorem paT.bits11 : waitsOk paT.T11.2 paT.B11 = true := by kernel_rfl

def ahead (a0 : Int) : Nat := if a0 % 7 = 0 then (a0 % 1048577).toNat else (a0 % 1048577).toNat % 100
theorem ahead_le {a0 : Int} (h : 0 ≤ a0) : ahead a0 ≤ 1048576 := by
  have h1 := Int.emod_nonneg a0 (b := 1048577) (by decide)
  have h2 := Int.emod_lt_of_pos a0 (b := 1048577) (by decide)
  unfold ahead
  split <;> omega
theorem concat_ev (l y : List Int) (h : l.length + y.length ≤ 1000000000) : Ev (fun k => slices_Concat_byte_byte.f k [l, y]) (l ++ y) := by
  have a1 : wrap64 (0 + (l.length : Int)) = l.length := by rw [Cod.wr1 (by omega) (by omega)]; omega
  have e1 : wrap64 ((l.length : Int) + (y.length : Int)) = (l.length : Int) + y.length := Cod.wr1 (by omega) (by omega)
  have a2 : wrap64 ((0 : Int) + 1) = 1 := Cod.wr1 (by decide) (by decide)
  have a3 : wrap64 ((1 : Int) + 1) = 2 := Cod.wr1 (by decide) (by decide)
  have h0 : (0 : Int) < (([l, y] : List (List Int)).length : Int) := by simp
  have h1 : (1 : Int) < (([l, y] : List (List Int)).length : Int) := by simp
  have h2 : ¬ (2 : Int) < (([l, y] : List (List Int)).length : Int) := by simp
  refine Ev.congr (f := fun k => slices_Concat_byte_byte.l0 k [l, y] 0 [l, y] 2 0) (fun k => rfl) ?_
  refine Ev.step (fun k => by simp only [slices_Concat_byte_byte.l0]; rw [if_pos (by decide), if_pos (by decide), if_pos h0, show rd_L12 [l, y] 0 = l from rfl, a1, if_neg (by omega), a2]) ?_
  refine Ev.step (fun k => by simp only [slices_Concat_byte_byte.l0]; rw [if_pos (by decide), if_pos (by decide), if_pos h1, show rd_L12 [l, y] 1 = y from rfl, e1, if_neg (by omega), a3]) ?_
  refine Ev.step (fun k => by simp only [slices_Concat_byte_byte.l0]; rw [if_neg (by decide), show slices_Grow_byte_byte.f ((l.length : Int) + (y.length : Int)) = some [] from if_pos ⟨by omega, by omega, by omega⟩, Option.bind_some]) ?_
  refine Ev.step (fun k => by simp only [slices_Concat_byte_byte.l1]; rw [if_pos h0, if_pos (by decide), if_pos h0, show rd_L12 [l, y] 0 = l from rfl, if_pos (by simp; omega), a2, List.nil_append]) ?_
  refine Ev.step (fun k => by simp only [slices_Concat_byte_byte.l1]; rw [if_pos h1, if_pos (by decide), if_pos h1, show rd_L12 [l, y] 1 = y from rfl, if_pos (by omega), a3]) ?_
  refine Ev.step (f := fun _ => some (l ++ y)) (fun k => by simp only [slices_Concat_byte_byte.l1]; rw [if_neg h2]) (Ev.now _)
theorem wB_bytes {x : S33} (h : wrE x = 0) : Bytes (wB x) := by
  have hz := wr_sizes h
  unfold wB
  exact Bytes_app (Bytes_app (tB_bytes hz.1) (fB_bytes _)) (tB_bytes hz.2)
theorem bytesW_ev (x : S33) : Ev (fun k => record_bytes_write.f k x.f0 x.f1 x.f2) (if wrE x = 0 then (wB x, 0) else ([], wrE x)) := by
  unfold record_bytes_write.f record_write_check.f
  refine Ev.bind (Ev.bind (checkWrite_ev x) (Ev.now _)) ?_
  by_cases h : wrE x = 0
  · rw [if_pos h]
    refine Ev.congr (fun k => if_pos h) ?_
    have hz := wr_sizes h
    refine Ev.bind (writePut_ev x hz.1 hz.2 [] (by simp)) ?_
    rw [List.nil_append]
    exact Ev.now _
  · rw [if_neg h]
    refine Ev.congr (fun k => if_neg h) ?_
    exact Ev.now _
theorem putW_bad {x : S33} (h : wrE x ≠ 0) (n : Nat) : Ev (fun k => record_PutWrite.f k (List.replicate n 0) x.f0 x.f1 x.f2) ([], wrE x) := by
  unfold record_PutWrite.f
  refine Ev.bind (bytesW_ev x) ?_
  rw [if_neg h]
  exact Ev.congr (fun k => if_neg h) (Ev.now _)
theorem putW_big {x : S33} (h : wrE x = 0) (n : Nat) (hn : n ≤ 1048576) (hb : 1048576 < n + (wB x).length) : Ev (fun k => record_PutWrite.f k (List.replicate n 0) x.f0 x.f1 x.f2) ([], 3) := by
  unfold record_PutWrite.f
  refine Ev.bind (bytesW_ev x) ?_
  rw [if_pos h]
  refine Ev.congr (fun k => if_pos rfl) ?_
  refine Ev.congr (fun k => if_pos ?_) (Ev.now _)
  rw [List.length_replicate, Cod.wr1 (by omega) (by omega)]
  show _ < _
  dsimp only
  omega
theorem putW_ok {x : S33} (h : wrE x = 0) (n : Nat) (hb : n + (wB x).length ≤ 1048576) : Ev (fun k => record_PutWrite.f k (List.replicate n 0) x.f0 x.f1 x.f2) (List.replicate n 0 ++ wB x, 0) := by
  unfold record_PutWrite.f
  refine Ev.bind (bytesW_ev x) ?_
  rw [if_pos h]
  refine Ev.congr (fun k => if_pos rfl) ?_
  refine Ev.congr (fun k => if_neg ?_) ?_
  · rw [List.length_replicate, Cod.wr1 (by omega) (by omega)]
    show ¬ _ < _
    dsimp only
    omega
  · exact Ev.bind (concat_ev _ (wB x) (by rw [List.length_replicate]; omega)) (Ev.now _)
theorem putW_calls (k : Nat) (P0 : Nat → Prop) (A : Option Addr) (c n : Nat) (x : S33) (r1 : List Int) (r2 : Int) (W : World) (hv : Kd.V U8 5 W W.heap.size (fun k_ => P0 k_) (.slice A n c) (List.replicate n 0)) (h : record_PutWrite.f k (List.replicate n 0) x.f0 x.f1 x.f2 = some (r1, r2)) :
    Calls Try.prog 43 #[.slice A n c, .agg #[.string x.f0, .string x.f1, .bool x.f2]] W fun e w' => ∃ v0_ : Value, e = .returned (.tuple #[v0_, .int .i64 r2]) ∧ Kd.R U8 5 w' W.heap.size (fun k_ => (W.heap.size ≤ k_)) v0_ r1 ∧ Below W.heap.size W w' := by
  have hl : (List.replicate n (0 : Int)).length = n := List.length_replicate
  have := record_PutWrite.calls k P0 A c (List.replicate n 0) x.f0 x.f1 x.f2 r1 r2 W (by rw [hl]; exact hv) h
  rwa [hl] at this
theorem clone_rep (A : Option Addr) (c n : Nat) (W : World) (hn : n ≤ 1048576) (hr : Kd.C U8 W A n (List.replicate n 0)) (hc : n ≤ c) :
    Calls Try.prog 37 #[.slice A n c] W fun e w' => ∃ v0_ : Value, e = .returned (v0_) ∧ Kd.R U8 5 w' W.heap.size (fun _ => True) v0_ (List.replicate n 0) ∧ Below W.heap.size W w' := by
  have hl : (List.replicate n (0 : Int)).length = n := List.length_replicate
  have := bytes_Clone.calls A c (List.replicate n 0) (List.replicate n 0) W (by rw [hl]; exact hr) (by rw [hl]; exact hc) (by unfold bytes_Clone.f; rw [if_pos (by rw [hl]; omega)])
  rwa [hl] at this
theorem toList_inj' {s t : ByteArray} (h : s.toList = t.toList) : s = t := by
  rw [ByteArray.toList_eq, ByteArray.toList_eq] at h
  exact ByteArray.ext (Array.toList_inj.1 h)
theorem eq_bytes {x y : List Int} (hx : Bytes x) (hy : Bytes y) {v : Bool} (h : v = true ↔ x = y) : bytes_Equal.f x y = some v := by
  unfold bytes_Equal.f
  congr 1
  apply Bool.eq_iff_iff.2
  rw [h, beq_iff_eq]
  constructor
  · intro e
    have e1 := congrArg bytesOf (toList_inj' e)
    rwa [bytes_str hx, bytes_str hy] at e1
  · rintro rfl
    rfl
set_option maxHeartbeats 16000000 in
set_option maxRecDepth 100000 in
theorem parts_go1 (a0 : Int) (x : S33) (A2 : Option Addr) (c2 : Nat) (b : List Int) (w : World)
    (hr : Kd.C U8 w A2 b.length b) (hc : b.length ≤ c2) (hb : Bytes b) (hl : b.length ≤ 140737488351232) (ha0 : 0 ≤ a0) (ha1 : a0 ≤ 4294967295) (he : wrE x ≠ 0) :
    Calls Try.prog 10 #[.int .u32 a0, .agg #[.string x.f0, .string x.f1, .bool x.f2], .slice A2 b.length c2] w fun e w' => e = .returned (.bool true) ∧ Below w.heap.size w w' := by
  have H0 := (Hp.start w).came (Kd.heap_int _) 0 rfl hr
  have hn := ahead_le ha0
  have hq1 := Int.emod_nonneg a0 (b := 1048577) (by decide)
  have hq2 := Int.emod_lt_of_pos a0 (b := 1048577) (by decide)
  have HN : Aside0 (ahead a0 ≤ 1048576) := ⟨hn⟩
  have HS : Aside0 ((((a0.tmod 7 != 0) = true ∧ (a0.tmod 7 == 0) = false) ∧ (a0.tmod 1048577).tmod 100 = (ahead a0 : Int)) ∨ (((a0.tmod 7 != 0) = false ∧ (a0.tmod 7 == 0) = true) ∧ a0.tmod 1048577 = (ahead a0 : Int))) := by
    constructor
    rw [Int.tmod_eq_emod_of_nonneg ha0, Int.tmod_eq_emod_of_nonneg ha0, Int.tmod_eq_emod_of_nonneg hq1]
    unfold ahead
    by_cases h7 : a0 % 7 = 0
    · rw [if_pos h7]
      exact .inr ⟨⟨by simp [h7], by simp [h7]⟩, by omega⟩
    · rw [if_neg h7]
      exact .inl ⟨⟨bne_iff_ne.mpr h7, beq_eq_false_iff_ne.mpr h7⟩, by omega⟩
  have HW1 : Aside0 (wrap64 (a0.tmod 1048577) = a0.tmod 1048577) := ⟨Cod.wr1 (x := a0.tmod 1048577) (by rw [Int.tmod_eq_emod_of_nonneg ha0]; omega) (by rw [Int.tmod_eq_emod_of_nonneg ha0]; omega)⟩
  generalize ahead a0 = n at hn HN HS 
  have HLB := Aside0.mk hl
  have HW2 : Aside0 (wrap64 (n : Int) = (n : Int)) := ⟨Cod.wr1 (by omega) (by omega)⟩
  obtain ⟨y, sz, et, m, hsz, hm, T44, T45⟩ := takeW_both hb hl
  have HT44 := Aside0.mk T44
  have HT45 := Aside0.mk T45
  have HSZ := Aside0.mk hsz
  have HM := Aside0.mk hm
  have HC := Aside0.mk hc
  have HCW := Aside0.mk (checkWriteR_eq x)
  obtain ⟨kp, hkp⟩ := (putW_bad he n).rounds
  have HKP := Aside0.mk hkp
  clear hkp
  generalize wrE x = ew at he HCW HKP
  have q1 : (ew != 0) = true := bne_iff_ne.mpr he
  have q2 : (ew == 0) = false := beq_eq_false_iff_ne.mpr he
  clear he
  have HPUT := Aside0.mk (fun A c W hv => putW_calls kp (fun _ => True) A c n x [] ew W hv HKP.out)
  clear HKP
  clear hq1 hq2 hn T44 T45 hr hc hb hl ha0 ha1 hsz hm
  have hw1 := HW1.out
  rcases HS.out with ⟨⟨s1, s2⟩, hn1⟩ | ⟨⟨s1, s2⟩, hn1⟩
  · have HN1 := Aside0.mk hn1
    clear hn1
    go_enter Try.func10, Try.ntmps10
    go_upto_region 6 with (first
      | ((with_reducible refine gate_dst (N := 4) rfl ?_); refine Hp.at_box H0 1 ?hg (N := 4) ?hd (cs := #[.string x.f0, .string x.f1, .bool x.f2]) (t := 33) ?hr ?_; (case hd => rfl); (case hg => rfl); (case hr => first | (go_simp; done) | (go_simp; rfl)); intro g4 w1 H1; clear H0)
      | (go_at_call 17; refine (cressetlaw03_live.calls 0 true _ rfl).mono ?_; rintro e w2 ⟨rfl, hb⟩; have H2 := H1.same hb; clear hb H1))
    simp only [HN1.out, HW2.out]
    go_upto_region 11 with (first
      | ((with_reducible refine gate_dst (N := 28) rfl ?_); refine Hp.at_make U8 H2 2 5 ?hg (N := 28) ?hd 42 (.tmp 27) (.tmp 27) ?ho n ?hx ?hy Try.underlying42 (.int .u8 0) 1 info5 rfl (by decide) (by omega) 0 rfl (by have := HN.out; omega) ?_; (case hd => rfl); (case hg => rfl); (case ho => rfl); (case hx => rfl); (case hy => rfl); intro A8 c8 w3 hc8 H3'; have H3 : Hp w w3 [(0, Asn.old w (fun _ => False)), (0, Asn.rd U8 A2 b.length b), (1, Asn.box g4 #[.string x.f0, .string x.f1, .bool x.f2] 33), (2, Asn.row U8 5 (.slice A8 n c8) (List.replicate n 0))] := H3'; clear H3' H2; have HC8 := Aside0.mk hc8; clear hc8; have z0 := H3.cell 2 rfl 0 (v := .string x.f0) rfl; have z1 := H3.cell 2 rfl 1 (v := .string x.f1) rfl; have z2 := H3.cell 2 rfl 2 (v := .bool x.f2) rfl)
      | (go_at_call 12; refine (cressetref03_CheckWrite.calls x.f0 x.f1 x.f2 ew _ HCW.out).mono ?_; rintro e w4 ⟨rfl, hb⟩; clear z0 z1 z2; have H4 := H3.same hb; clear hb H3; have z0 := H4.cell 2 rfl 0 (v := .string x.f0) rfl; have z1 := H4.cell 2 rfl 1 (v := .string x.f1) rfl; have z2 := H4.cell 2 rfl 2 (v := .bool x.f2) rfl)
      | (go_at_call 43; refine (HPUT.out A8 c8 _ (H4.fact 3 rfl (fun S h => Kd.V_mono (Kd.R_V h) (fun _ _ => trivial)))).mono ?_; rintro e w6 ⟨v6, rfl, hR, hb⟩; clear z0 z1 z2; have H6' := H4.made 4 hb (Kd.R_mono hR (fun _ _ => trivial)); obtain ⟨A10, c10, rfl⟩ := Kd.R_slice hR; clear hR hb H4; have H6 : Hp w w6 [(0, Asn.old w (fun _ => False)), (0, Asn.rd U8 A2 b.length b), (1, Asn.box g4 #[.string x.f0, .string x.f1, .bool x.f2] 33), (2, Asn.row U8 5 (.slice A8 n c8) (List.replicate n 0)), (4, Asn.row U8 5 (.slice A10 0 c10) [])] := H6'; clear H6'; have z0 := H6.cell 2 rfl 0 (v := .string x.f0) rfl; have z1 := H6.cell 2 rfl 1 (v := .string x.f1) rfl; have z2 := H6.cell 2 rfl 2 (v := .bool x.f2) rfl))
    have HD := H6.drew
    clear z0 z1 z2
    clear H6
    refine start_ (n := 26) (S := fun w' => w'.cell? ⟨g4, 0, none⟩ = some (.string x.f0) ∧ w'.cell? ⟨g4, 1, none⟩ = some (.string x.f1) ∧ w'.cell? ⟨g4, 2, none⟩ = some (.bool x.f2)) (ds := []) #[false, false, false, false, false, false, false, false, false, false, false, false, false, false, false, false, false, false, false, false, false, false, false, false, false, false] (by kernel_rfl) rfl rfl ⟨(HD.cell 2 rfl 0 (v := .string x.f0) rfl), (HD.cell 2 rfl 1 (v := .string x.f1) rfl), (HD.cell 2 rfl 2 (v := .bool x.f2) rfl)⟩ (fun hHeld => ?_); refine with_tabW paT.tab11 paT.bits11 (fun HT_ HW_ => ?_)
    refine pure_ (i := 0) (N := some 47) (v := ?_) (a' := ?_) #[true, false, false, false, false, false, false, false, false, false, false, false, false, false, false, false, false, false, false, false, false, false, false, false, false, false] rfl rfl (any_of HT_.out (by kernel_rfl)) (fun _ _ _ h => h) (Or.inl ⟨by rfl, ?_⟩) ?_ ?_
    rotate_left
    · intro w'
      go_simp
      with_reducible rfl
    rotate_left
    · simp only [Act.put, List.setIfInBounds_toArray, List.set_cons_zero, List.set_cons_succ, i64_w, i32_w]
      rfl
    refine pure_ (i := 1) (N := some 48) (v := ?_) (a' := ?_) #[true, true, false, false, false, false, false, false, false, false, false, false, false, false, false, false, false, false, false, false, false, false, false, false, false, false] rfl rfl (any_of HT_.out (by kernel_rfl)) (fun _ _ _ h => h) (Or.inl ⟨by rfl, ?_⟩) ?_ ?_
    rotate_left
    · intro w'
      go_simp
      with_reducible rfl
    rotate_left
    · simp only [Act.put, List.setIfInBounds_toArray, List.set_cons_zero, List.set_cons_succ, i64_w, i32_w]
      rfl
    refine pure_ (i := 2) (N := some 49) (v := ?_) (a' := ?_) #[true, true, true, false, false, false, false, false, false, false, false, false, false, false, false, false, false, false, false, false, false, false, false, false, false, false] rfl rfl (any_of HT_.out (by kernel_rfl)) (fun _ _ _ h => h) (Or.inl ⟨by rfl, ?_⟩) ?_ ?_
    rotate_left
    · intro w'
      go_simp
      with_reducible rfl
    rotate_left
    · simp only [Act.put, List.setIfInBounds_toArray, List.set_cons_zero, List.set_cons_succ, i64_w, i32_w]
      rfl
    refine pure_ (i := 3) (N := some 50) (v := ?_) (a' := ?_) #[true, true, true, true, false, false, false, false, false, false, false, false, false, false, false, false, false, false, false, false, false, false, false, false, false, false] rfl rfl (any_of HT_.out (by kernel_rfl)) (fun _ _ _ h => h) (Or.inl ⟨by rfl, ?_⟩) ?_ ?_
    rotate_left
    · intro w'
      go_simp
      with_reducible rfl
    rotate_left
    · simp only [Act.put, List.setIfInBounds_toArray, List.set_cons_zero, List.set_cons_succ, i64_w, i32_w]
      rfl
    refine pure_ (i := 4) (N := some 51) (v := ?_) (a' := ?_) #[true, true, true, true, true, false, false, false, false, false, false, false, false, false, false, false, false, false, false, false, false, false, false, false, false, false] rfl rfl (any_of HT_.out (by kernel_rfl)) (fun _ _ _ h => h) (Or.inl ⟨by rfl, ?_⟩) ?_ ?_
    rotate_left
    · intro w'
      go_simp
      with_reducible rfl
    rotate_left
    · simp only [Act.put, List.setIfInBounds_toArray, List.set_cons_zero, List.set_cons_succ, i64_w, i32_w]
      rfl
    refine pure_ (i := 5) (N := some 52) (v := ?_) (a' := ?_) #[true, true, true, true, true, true, false, false, false, false, false, false, false, false, false, false, false, false, false, false, false, false, false, false, false, false] rfl rfl (any_of HT_.out (by kernel_rfl)) (fun _ _ _ h => h) (Or.inl ⟨by rfl, ?_⟩) ?_ ?_
    rotate_left
    · intro w'
      go_simp
      with_reducible rfl
    rotate_left
    · simp only [Act.put, List.setIfInBounds_toArray, List.set_cons_zero, List.set_cons_succ, i64_w, i32_w]
      rfl
    refine pure_ (i := 6) (N := some 53) (v := ?_) (a' := ?_) #[true, true, true, true, true, true, true, false, false, false, false, false, false, false, false, false, false, false, false, false, false, false, false, false, false, false] rfl rfl (any_of HT_.out (by kernel_rfl)) (fun _ _ _ h => h) (Or.inl ⟨by rfl, ?_⟩) ?_ ?_
    rotate_left
    · intro w'
      go_simp
      with_reducible rfl
    rotate_left
    · simp only [Act.put, List.setIfInBounds_toArray, List.set_cons_zero, List.set_cons_succ, i64_w, i32_w]
      rfl
    refine pure_ (i := 7) (N := some 54) (v := ?_) (a' := ?_) #[true, true, true, true, true, true, true, true, false, false, false, false, false, false, false, false, false, false, false, false, false, false, false, false, false, false] rfl rfl (any_of HT_.out (by kernel_rfl)) (fun _ _ _ h => h) (Or.inl ⟨by rfl, ?_⟩) ?_ ?_
    rotate_left
    · intro w'
      go_simp
      with_reducible rfl
    rotate_left
    · simp only [Act.put, List.setIfInBounds_toArray, List.set_cons_zero, List.set_cons_succ, i64_w, i32_w]
      rfl
    refine pure_ (i := 8) (N := some 55) (v := ?_) (a' := ?_) #[true, true, true, true, true, true, true, true, true, false, false, false, false, false, false, false, false, false, false, false, false, false, false, false, false, false] rfl rfl (any_of HT_.out (by kernel_rfl)) (fun _ _ _ h => h) (Or.inl ⟨by rfl, ?_⟩) ?_ ?_
    rotate_left
    · intro w'
      go_simp
      with_reducible rfl
    rotate_left
    · simp only [Act.put, List.setIfInBounds_toArray, List.set_cons_zero, List.set_cons_succ, i64_w, i32_w]
      rfl
    refine pure_ (i := 9) (N := some 56) (v := ?_) (a' := ?_) #[true, true, true, true, true, true, true, true, true, true, false, false, false, false, false, false, false, false, false, false, false, false, false, false, false, false] rfl rfl (any_of HT_.out (by kernel_rfl)) (fun _ _ _ h => h) (Or.inl ⟨by rfl, ?_⟩) ?_ ?_
    rotate_left
    · intro w'
      go_simp
      with_reducible rfl
    rotate_left
    · simp only [Act.put, List.setIfInBounds_toArray, List.set_cons_zero, List.set_cons_succ, i64_w, i32_w]
      rfl
    refine pure_ (i := 10) (N := some 57) (v := ?_) (a' := ?_) #[true, true, true, true, true, true, true, true, true, true, true, false, false, false, false, false, false, false, false, false, false, false, false, false, false, false] rfl rfl (any_of HT_.out (by kernel_rfl)) (fun _ _ _ h => h) (Or.inl ⟨by rfl, ?_⟩) ?_ ?_
    rotate_left
    · intro w'
      go_simp
      with_reducible rfl
    rotate_left
    · simp only [Act.put, List.setIfInBounds_toArray, List.set_cons_zero, List.set_cons_succ, i64_w, i32_w]
      rfl
    refine pure_ (i := 11) (N := some 58) (v := ?_) (a' := ?_) #[true, true, true, true, true, true, true, true, true, true, true, true, false, false, false, false, false, false, false, false, false, false, false, false, false, false] rfl rfl (any_of HT_.out (by kernel_rfl)) (fun _ _ _ h => h) (Or.inl ⟨by rfl, ?_⟩) ?_ ?_
    rotate_left
    · intro w'
      go_simp
      with_reducible rfl
    rotate_left
    · simp only [Act.put, List.setIfInBounds_toArray, List.set_cons_zero, List.set_cons_succ, i64_w, i32_w]
      rfl
    refine pure_ (i := 12) (N := some 59) (v := ?_) (a' := ?_) #[true, true, true, true, true, true, true, true, true, true, true, true, true, false, false, false, false, false, false, false, false, false, false, false, false, false] rfl rfl (any_of HT_.out (by kernel_rfl)) (fun _ _ _ h => h) (Or.inl ⟨by rfl, ?_⟩) ?_ ?_
    rotate_left
    · intro w'
      go_simp
      with_reducible rfl
    rotate_left
    · simp only [Act.put, List.setIfInBounds_toArray, List.set_cons_zero, List.set_cons_succ, i64_w, i32_w]
      rfl
    refine pure_ (i := 13) (N := some 60) (v := ?_) (a' := ?_) #[true, true, true, true, true, true, true, true, true, true, true, true, true, true, false, false, false, false, false, false, false, false, false, false, false, false] rfl rfl (any_of HT_.out (by kernel_rfl)) (fun _ _ _ h => h) (Or.inl ⟨by rfl, ?_⟩) ?_ ?_
    rotate_left
    · intro w'
      go_simp
      with_reducible rfl
    rotate_left
    · simp only [Act.put, List.setIfInBounds_toArray, List.set_cons_zero, List.set_cons_succ, i64_w, i32_w]
      rfl
    refine pure_ (i := 14) (N := some 61) (v := ?_) (a' := ?_) #[true, true, true, true, true, true, true, true, true, true, true, true, true, true, true, false, false, false, false, false, false, false, false, false, false, false] rfl rfl (any_of HT_.out (by kernel_rfl)) (fun _ _ _ h => h) (Or.inl ⟨by rfl, ?_⟩) ?_ ?_
    rotate_left
    · intro w'
      go_simp
      with_reducible rfl
    rotate_left
    · simp only [Act.put, List.setIfInBounds_toArray, List.set_cons_zero, List.set_cons_succ, i64_w, i32_w]
      rfl
    refine pure_ (i := 15) (N := some 62) (v := ?_) (a' := ?_) #[true, true, true, true, true, true, true, true, true, true, true, true, true, true, true, true, false, false, false, false, false, false, false, false, false, false] rfl rfl (any_of HT_.out (by kernel_rfl)) (fun _ _ _ h => h) (Or.inl ⟨by rfl, ?_⟩) ?_ ?_
    rotate_left
    · intro w'
      go_simp
      with_reducible rfl
    rotate_left
    · simp only [Act.put, List.setIfInBounds_toArray, List.set_cons_zero, List.set_cons_succ, i64_w, i32_w]
      rfl
    refine pure_ (i := 16) (N := some 63) (v := undef) (a' := ?_) #[true, true, true, true, true, true, true, true, true, true, true, true, true, true, true, true, true, false, false, false, false, false, false, false, false, false] rfl rfl (any_of HT_.out (by kernel_rfl)) (fun _ _ _ h => h) (Or.inr ⟨by rfl, rfl⟩) ?_ ?_
    rotate_left
    · simp only [Act.put, List.setIfInBounds_toArray, List.set_cons_zero, List.set_cons_succ, i64_w, i32_w]
      rfl
    refine pure_ (i := 17) (N := some 64) (v := undef) (a' := ?_) #[true, true, true, true, true, true, true, true, true, true, true, true, true, true, true, true, true, true, false, false, false, false, false, false, false, false] rfl rfl (any_of HT_.out (by kernel_rfl)) (fun _ _ _ h => h) (Or.inr ⟨by rfl, rfl⟩) ?_ ?_
    rotate_left
    · simp only [Act.put, List.setIfInBounds_toArray, List.set_cons_zero, List.set_cons_succ, i64_w, i32_w]
      rfl
    refine pure_ (i := 18) (N := some 65) (v := undef) (a' := ?_) #[true, true, true, true, true, true, true, true, true, true, true, true, true, true, true, true, true, true, true, false, false, false, false, false, false, false] rfl rfl (any_of HT_.out (by kernel_rfl)) (fun _ _ _ h => h) (Or.inr ⟨by rfl, rfl⟩) ?_ ?_
    rotate_left
    · simp only [Act.put, List.setIfInBounds_toArray, List.set_cons_zero, List.set_cons_succ, i64_w, i32_w]
      rfl
    refine pure_ (i := 19) (N := some 66) (v := undef) (a' := ?_) #[true, true, true, true, true, true, true, true, true, true, true, true, true, true, true, true, true, true, true, true, false, false, false, false, false, false] rfl rfl (any_of HT_.out (by kernel_rfl)) (fun _ _ _ h => h) (Or.inr ⟨by rfl, rfl⟩) ?_ ?_
    rotate_left
    · simp only [Act.put, List.setIfInBounds_toArray, List.set_cons_zero, List.set_cons_succ, i64_w, i32_w]
      rfl
    refine pure_ (i := 20) (N := some 67) (v := undef) (a' := ?_) #[true, true, true, true, true, true, true, true, true, true, true, true, true, true, true, true, true, true, true, true, true, false, false, false, false, false] rfl rfl (any_of HT_.out (by kernel_rfl)) (fun _ _ _ h => h) (Or.inr ⟨by rfl, rfl⟩) ?_ ?_
    rotate_left
    · simp only [Act.put, List.setIfInBounds_toArray, List.set_cons_zero, List.set_cons_succ, i64_w, i32_w]
      rfl
    refine pure_ (i := 21) (N := some 68) (v := undef) (a' := ?_) #[true, true, true, true, true, true, true, true, true, true, true, true, true, true, true, true, true, true, true, true, true, true, false, false, false, false] rfl rfl (any_of HT_.out (by kernel_rfl)) (fun _ _ _ h => h) (Or.inr ⟨by rfl, rfl⟩) ?_ ?_
    rotate_left
    · simp only [Act.put, List.setIfInBounds_toArray, List.set_cons_zero, List.set_cons_succ, i64_w, i32_w]
      rfl
    refine pure_ (i := 22) (N := some 69) (v := undef) (a' := ?_) #[true, true, true, true, true, true, true, true, true, true, true, true, true, true, true, true, true, true, true, true, true, true, true, false, false, false] rfl rfl (any_of HT_.out (by kernel_rfl)) (fun _ _ _ h => h) (Or.inr ⟨by rfl, rfl⟩) ?_ ?_
    rotate_left
    · simp only [Act.put, List.setIfInBounds_toArray, List.set_cons_zero, List.set_cons_succ, i64_w, i32_w]
      rfl
    refine pure_ (i := 23) (N := some 70) (v := undef) (a' := ?_) #[true, true, true, true, true, true, true, true, true, true, true, true, true, true, true, true, true, true, true, true, true, true, true, true, false, false] rfl rfl (any_of HT_.out (by kernel_rfl)) (fun _ _ _ h => h) (Or.inr ⟨by rfl, rfl⟩) ?_ ?_
    rotate_left
    · simp only [Act.put, List.setIfInBounds_toArray, List.set_cons_zero, List.set_cons_succ, i64_w, i32_w]
      rfl
    refine pure_ (i := 24) (N := some 71) (v := ?_) (a' := ?_) #[true, true, true, true, true, true, true, true, true, true, true, true, true, true, true, true, true, true, true, true, true, true, true, true, true, false] rfl rfl (any_of HT_.out (by kernel_rfl)) (fun _ _ _ h => h) (Or.inl ⟨by rfl, ?_⟩) ?_ ?_
    rotate_left
    · intro w'
      go_simp
      with_reducible rfl
    rotate_left
    · simp only [Act.put, List.setIfInBounds_toArray, List.set_cons_zero, List.set_cons_succ, i64_w, i32_w]
      rfl
    refine pure_ (i := 25) (N := some 72) (v := ?_) (a' := ?_) #[true, true, true, true, true, true, true, true, true, true, true, true, true, true, true, true, true, true, true, true, true, true, true, true, true, true] rfl rfl (any_of HT_.out (by kernel_rfl)) (fun _ _ _ h => h) (Or.inl ⟨by rfl, ?_⟩) ?_ ?_
    rotate_left
    · intro w'
      go_simp
      with_reducible rfl
    rotate_left
    · simp only [Act.put, List.setIfInBounds_toArray, List.set_cons_zero, List.set_cons_succ, i64_w, i32_w]
      rfl
    refine done_ (done_of HT_.out (by kernel_rfl)) ?_
    clear HT_ HW_ hHeld
    have H11 : Hp w _ [(0, Asn.old w (fun _ => False)), (0, Asn.rd U8 A2 b.length b)] := HD.keep [0, 1]
    clear HD
    have hsub : wrap64 ((b.length : Int) - (m : Int)) = sz := by rw [HSZ.out]; exact Cod.wr1 (by have := HM.out; omega) (by have := HLB.out; omega)
    go_wp2_with (first
      | (go_at_call 44; refine (HT44.out A2 c2 _ (H11.reads 1 rfl) HC.out).mono ?_; rintro e w12 ⟨rfl, hb⟩; have H12 := H11.same hb; clear hb H11)
      | ((with_reducible refine gate_dst (N := 12) rfl ?_); refine Hp.at_box H12 1 ?hg (N := 12) ?hd (cs := #[.string ⟨#[]⟩, .string ⟨#[]⟩, .bool false]) (t := 33) ?hr ?_; (case hd => rfl); (case hg => rfl); (case hr => first | (go_simp; done) | (go_simp; rfl)); intro g12 vg12 H13z; clear H12; have k0 := H13z.cell 2 rfl 0 (v := .string ⟨#[]⟩) rfl; have k1 := H13z.cell 2 rfl 1 (v := .string ⟨#[]⟩) rfl; have k2 := H13z.cell 2 rfl 2 (v := .bool false) rfl; have uk0 := H13z.unfrozen 2 rfl 0; have uk1 := H13z.unfrozen 2 rfl 1; have uk2 := H13z.unfrozen 2 rfl 2; have H13 := Hp.box_sets (i := 1) (p := 2) [.string y.f0, .string y.f1, .bool y.f2] 0 _ _ _ H13z rfl rfl; simp only [sets, Nat.zero_add, Nat.reduceAdd] at H13)
      | (go_at_call 45; refine (HT45.out A2 c2 _ (H13.reads 1 rfl) HC.out).mono ?_; rintro e w14 ⟨A14, c14, rfl, hb⟩; have H14 := H13.same hb; clear hb H13 H13z k0 k1 k2 uk0 uk1 uk2)
      | ((with_reducible refine gate_dst (N := 14) rfl ?_); refine Hp.at_box H14 2 ?hg (N := 14) ?hd (cs := #[.string ⟨#[]⟩, .string ⟨#[]⟩, .bool false]) (t := 33) ?hr ?_; (case hd => rfl); (case hg => rfl); (case hr => first | (go_simp; done) | (go_simp; rfl)); intro g14 vg14 H15z; clear H14; have k0 := H15z.cell 3 rfl 0 (v := .string ⟨#[]⟩) rfl; have k1 := H15z.cell 3 rfl 1 (v := .string ⟨#[]⟩) rfl; have k2 := H15z.cell 3 rfl 2 (v := .bool false) rfl; have uk0 := H15z.unfrozen 3 rfl 0; have uk1 := H15z.unfrozen 3 rfl 1; have uk2 := H15z.unfrozen 3 rfl 2; have H15 := Hp.box_sets (i := 2) (p := 3) [.string y.f0, .string y.f1, .bool y.f2] 0 _ _ _ H15z rfl rfl; simp only [sets, Nat.zero_add, Nat.reduceAdd] at H15; have r0 := H15.cell 2 rfl 0 (v := .string y.f0) rfl; have r1 := H15.cell 2 rfl 1 (v := .string y.f1) rfl; have r2 := H15.cell 2 rfl 2 (v := .bool y.f2) rfl; have t0 := H15.cell 3 rfl 0 (v := .string y.f0) rfl; have t1 := H15.cell 3 rfl 1 (v := .string y.f1) rfl; have t2 := H15.cell 3 rfl 2 (v := .bool y.f2) rfl))
    go_ret
    exact ⟨rfl, H15.below 0 rfl (fun _ h => h)⟩
  · have HN1 := Aside0.mk hn1
    clear hn1
    go_enter Try.func10, Try.ntmps10
    go_upto_region 6 with (first
      | ((with_reducible refine gate_dst (N := 4) rfl ?_); refine Hp.at_box H0 1 ?hg (N := 4) ?hd (cs := #[.string x.f0, .string x.f1, .bool x.f2]) (t := 33) ?hr ?_; (case hd => rfl); (case hg => rfl); (case hr => first | (go_simp; done) | (go_simp; rfl)); intro g4 w1 H1; clear H0)
      | (go_at_call 17; refine (cressetlaw03_live.calls 0 true _ rfl).mono ?_; rintro e w2 ⟨rfl, hb⟩; have H2 := H1.same hb; clear hb H1))
    simp only [HN1.out, HW2.out]
    go_upto_region 11 with (first
      | ((with_reducible refine gate_dst (N := 28) rfl ?_); refine Hp.at_make U8 H2 2 5 ?hg (N := 28) ?hd 42 (.tmp 27) (.tmp 27) ?ho n ?hx ?hy Try.underlying42 (.int .u8 0) 1 info5 rfl (by decide) (by omega) 0 rfl (by have := HN.out; omega) ?_; (case hd => rfl); (case hg => rfl); (case ho => rfl); (case hx => rfl); (case hy => rfl); intro A8 c8 w3 hc8 H3'; have H3 : Hp w w3 [(0, Asn.old w (fun _ => False)), (0, Asn.rd U8 A2 b.length b), (1, Asn.box g4 #[.string x.f0, .string x.f1, .bool x.f2] 33), (2, Asn.row U8 5 (.slice A8 n c8) (List.replicate n 0))] := H3'; clear H3' H2; have HC8 := Aside0.mk hc8; clear hc8; have z0 := H3.cell 2 rfl 0 (v := .string x.f0) rfl; have z1 := H3.cell 2 rfl 1 (v := .string x.f1) rfl; have z2 := H3.cell 2 rfl 2 (v := .bool x.f2) rfl)
      | (go_at_call 12; refine (cressetref03_CheckWrite.calls x.f0 x.f1 x.f2 ew _ HCW.out).mono ?_; rintro e w4 ⟨rfl, hb⟩; clear z0 z1 z2; have H4 := H3.same hb; clear hb H3; have z0 := H4.cell 2 rfl 0 (v := .string x.f0) rfl; have z1 := H4.cell 2 rfl 1 (v := .string x.f1) rfl; have z2 := H4.cell 2 rfl 2 (v := .bool x.f2) rfl)
      | (go_at_call 43; refine (HPUT.out A8 c8 _ (H4.fact 3 rfl (fun S h => Kd.V_mono (Kd.R_V h) (fun _ _ => trivial)))).mono ?_; rintro e w6 ⟨v6, rfl, hR, hb⟩; clear z0 z1 z2; have H6' := H4.made 4 hb (Kd.R_mono hR (fun _ _ => trivial)); obtain ⟨A10, c10, rfl⟩ := Kd.R_slice hR; clear hR hb H4; have H6 : Hp w w6 [(0, Asn.old w (fun _ => False)), (0, Asn.rd U8 A2 b.length b), (1, Asn.box g4 #[.string x.f0, .string x.f1, .bool x.f2] 33), (2, Asn.row U8 5 (.slice A8 n c8) (List.replicate n 0)), (4, Asn.row U8 5 (.slice A10 0 c10) [])] := H6'; clear H6'; have z0 := H6.cell 2 rfl 0 (v := .string x.f0) rfl; have z1 := H6.cell 2 rfl 1 (v := .string x.f1) rfl; have z2 := H6.cell 2 rfl 2 (v := .bool x.f2) rfl))
    have HD := H6.drew
    clear z0 z1 z2
    clear H6
    refine start_ (n := 26) (S := fun w' => w'.cell? ⟨g4, 0, none⟩ = some (.string x.f0) ∧ w'.cell? ⟨g4, 1, none⟩ = some (.string x.f1) ∧ w'.cell? ⟨g4, 2, none⟩ = some (.bool x.f2)) (ds := []) #[false, false, false, false, false, false, false, false, false, false, false, false, false, false, false, false, false, false, false, false, false, false, false, false, false, false] (by kernel_rfl) rfl rfl ⟨(HD.cell 2 rfl 0 (v := .string x.f0) rfl), (HD.cell 2 rfl 1 (v := .string x.f1) rfl), (HD.cell 2 rfl 2 (v := .bool x.f2) rfl)⟩ (fun hHeld => ?_); refine with_tabW paT.tab11 paT.bits11 (fun HT_ HW_ => ?_)
    refine pure_ (i := 0) (N := some 47) (v := ?_) (a' := ?_) #[true, false, false, false, false, false, false, false, false, false, false, false, false, false, false, false, false, false, false, false, false, false, false, false, false, false] rfl rfl (any_of HT_.out (by kernel_rfl)) (fun _ _ _ h => h) (Or.inl ⟨by rfl, ?_⟩) ?_ ?_
    rotate_left
    · intro w'
      go_simp
      with_reducible rfl
    rotate_left
    · simp only [Act.put, List.setIfInBounds_toArray, List.set_cons_zero, List.set_cons_succ, i64_w, i32_w]
      rfl
    refine pure_ (i := 1) (N := some 48) (v := ?_) (a' := ?_) #[true, true, false, false, false, false, false, false, false, false, false, false, false, false, false, false, false, false, false, false, false, false, false, false, false, false] rfl rfl (any_of HT_.out (by kernel_rfl)) (fun _ _ _ h => h) (Or.inl ⟨by rfl, ?_⟩) ?_ ?_
    rotate_left
    · intro w'
      go_simp
      with_reducible rfl
    rotate_left
    · simp only [Act.put, List.setIfInBounds_toArray, List.set_cons_zero, List.set_cons_succ, i64_w, i32_w]
      rfl
    refine pure_ (i := 2) (N := some 49) (v := ?_) (a' := ?_) #[true, true, true, false, false, false, false, false, false, false, false, false, false, false, false, false, false, false, false, false, false, false, false, false, false, false] rfl rfl (any_of HT_.out (by kernel_rfl)) (fun _ _ _ h => h) (Or.inl ⟨by rfl, ?_⟩) ?_ ?_
    rotate_left
    · intro w'
      go_simp
      with_reducible rfl
    rotate_left
    · simp only [Act.put, List.setIfInBounds_toArray, List.set_cons_zero, List.set_cons_succ, i64_w, i32_w]
      rfl
    refine pure_ (i := 3) (N := some 50) (v := ?_) (a' := ?_) #[true, true, true, true, false, false, false, false, false, false, false, false, false, false, false, false, false, false, false, false, false, false, false, false, false, false] rfl rfl (any_of HT_.out (by kernel_rfl)) (fun _ _ _ h => h) (Or.inl ⟨by rfl, ?_⟩) ?_ ?_
    rotate_left
    · intro w'
      go_simp
      with_reducible rfl
    rotate_left
    · simp only [Act.put, List.setIfInBounds_toArray, List.set_cons_zero, List.set_cons_succ, i64_w, i32_w]
      rfl
    refine pure_ (i := 4) (N := some 51) (v := ?_) (a' := ?_) #[true, true, true, true, true, false, false, false, false, false, false, false, false, false, false, false, false, false, false, false, false, false, false, false, false, false] rfl rfl (any_of HT_.out (by kernel_rfl)) (fun _ _ _ h => h) (Or.inl ⟨by rfl, ?_⟩) ?_ ?_
    rotate_left
    · intro w'
      go_simp
      with_reducible rfl
    rotate_left
    · simp only [Act.put, List.setIfInBounds_toArray, List.set_cons_zero, List.set_cons_succ, i64_w, i32_w]
      rfl
    refine pure_ (i := 5) (N := some 52) (v := ?_) (a' := ?_) #[true, true, true, true, true, true, false, false, false, false, false, false, false, false, false, false, false, false, false, false, false, false, false, false, false, false] rfl rfl (any_of HT_.out (by kernel_rfl)) (fun _ _ _ h => h) (Or.inl ⟨by rfl, ?_⟩) ?_ ?_
    rotate_left
    · intro w'
      go_simp
      with_reducible rfl
    rotate_left
    · simp only [Act.put, List.setIfInBounds_toArray, List.set_cons_zero, List.set_cons_succ, i64_w, i32_w]
      rfl
    refine pure_ (i := 6) (N := some 53) (v := ?_) (a' := ?_) #[true, true, true, true, true, true, true, false, false, false, false, false, false, false, false, false, false, false, false, false, false, false, false, false, false, false] rfl rfl (any_of HT_.out (by kernel_rfl)) (fun _ _ _ h => h) (Or.inl ⟨by rfl, ?_⟩) ?_ ?_
    rotate_left
    · intro w'
      go_simp
      with_reducible rfl
    rotate_left
    · simp only [Act.put, List.setIfInBounds_toArray, List.set_cons_zero, List.set_cons_succ, i64_w, i32_w]
      rfl
    refine pure_ (i := 7) (N := some 54) (v := ?_) (a' := ?_) #[true, true, true, true, true, true, true, true, false, false, false, false, false, false, false, false, false, false, false, false, false, false, false, false, false, false] rfl rfl (any_of HT_.out (by kernel_rfl)) (fun _ _ _ h => h) (Or.inl ⟨by rfl, ?_⟩) ?_ ?_
    rotate_left
    · intro w'
      go_simp
      with_reducible rfl
    rotate_left
    · simp only [Act.put, List.setIfInBounds_toArray, List.set_cons_zero, List.set_cons_succ, i64_w, i32_w]
      rfl
    refine pure_ (i := 8) (N := some 55) (v := ?_) (a' := ?_) #[true, true, true, true, true, true, true, true, true, false, false, false, false, false, false, false, false, false, false, false, false, false, false, false, false, false] rfl rfl (any_of HT_.out (by kernel_rfl)) (fun _ _ _ h => h) (Or.inl ⟨by rfl, ?_⟩) ?_ ?_
    rotate_left
    · intro w'
      go_simp
      with_reducible rfl
    rotate_left
    · simp only [Act.put, List.setIfInBounds_toArray, List.set_cons_zero, List.set_cons_succ, i64_w, i32_w]
      rfl
    refine pure_ (i := 9) (N := some 56) (v := ?_) (a' := ?_) #[true, true, true, true, true, true, true, true, true, true, false, false, false, false, false, false, false, false, false, false, false, false, false, false, false, false] rfl rfl (any_of HT_.out (by kernel_rfl)) (fun _ _ _ h => h) (Or.inl ⟨by rfl, ?_⟩) ?_ ?_
    rotate_left
    · intro w'
      go_simp
      with_reducible rfl
    rotate_left
    · simp only [Act.put, List.setIfInBounds_toArray, List.set_cons_zero, List.set_cons_succ, i64_w, i32_w]
      rfl
    refine pure_ (i := 10) (N := some 57) (v := ?_) (a' := ?_) #[true, true, true, true, true, true, true, true, true, true, true, false, false, false, false, false, false, false, false, false, false, false, false, false, false, false] rfl rfl (any_of HT_.out (by kernel_rfl)) (fun _ _ _ h => h) (Or.inl ⟨by rfl, ?_⟩) ?_ ?_
    rotate_left
    · intro w'
      go_simp
      with_reducible rfl
    rotate_left
    · simp only [Act.put, List.setIfInBounds_toArray, List.set_cons_zero, List.set_cons_succ, i64_w, i32_w]
      rfl
    refine pure_ (i := 11) (N := some 58) (v := ?_) (a' := ?_) #[true, true, true, true, true, true, true, true, true, true, true, true, false, false, false, false, false, false, false, false, false, false, false, false, false, false] rfl rfl (any_of HT_.out (by kernel_rfl)) (fun _ _ _ h => h) (Or.inl ⟨by rfl, ?_⟩) ?_ ?_
    rotate_left
    · intro w'
      go_simp
      with_reducible rfl
    rotate_left
    · simp only [Act.put, List.setIfInBounds_toArray, List.set_cons_zero, List.set_cons_succ, i64_w, i32_w]
      rfl
    refine pure_ (i := 12) (N := some 59) (v := ?_) (a' := ?_) #[true, true, true, true, true, true, true, true, true, true, true, true, true, false, false, false, false, false, false, false, false, false, false, false, false, false] rfl rfl (any_of HT_.out (by kernel_rfl)) (fun _ _ _ h => h) (Or.inl ⟨by rfl, ?_⟩) ?_ ?_
    rotate_left
    · intro w'
      go_simp
      with_reducible rfl
    rotate_left
    · simp only [Act.put, List.setIfInBounds_toArray, List.set_cons_zero, List.set_cons_succ, i64_w, i32_w]
      rfl
    refine pure_ (i := 13) (N := some 60) (v := ?_) (a' := ?_) #[true, true, true, true, true, true, true, true, true, true, true, true, true, true, false, false, false, false, false, false, false, false, false, false, false, false] rfl rfl (any_of HT_.out (by kernel_rfl)) (fun _ _ _ h => h) (Or.inl ⟨by rfl, ?_⟩) ?_ ?_
    rotate_left
    · intro w'
      go_simp
      with_reducible rfl
    rotate_left
    · simp only [Act.put, List.setIfInBounds_toArray, List.set_cons_zero, List.set_cons_succ, i64_w, i32_w]
      rfl
    refine pure_ (i := 14) (N := some 61) (v := ?_) (a' := ?_) #[true, true, true, true, true, true, true, true, true, true, true, true, true, true, true, false, false, false, false, false, false, false, false, false, false, false] rfl rfl (any_of HT_.out (by kernel_rfl)) (fun _ _ _ h => h) (Or.inl ⟨by rfl, ?_⟩) ?_ ?_
    rotate_left
    · intro w'
      go_simp
      with_reducible rfl
    rotate_left
    · simp only [Act.put, List.setIfInBounds_toArray, List.set_cons_zero, List.set_cons_succ, i64_w, i32_w]
      rfl
    refine pure_ (i := 15) (N := some 62) (v := ?_) (a' := ?_) #[true, true, true, true, true, true, true, true, true, true, true, true, true, true, true, true, false, false, false, false, false, false, false, false, false, false] rfl rfl (any_of HT_.out (by kernel_rfl)) (fun _ _ _ h => h) (Or.inl ⟨by rfl, ?_⟩) ?_ ?_
    rotate_left
    · intro w'
      go_simp
      with_reducible rfl
    rotate_left
    · simp only [Act.put, List.setIfInBounds_toArray, List.set_cons_zero, List.set_cons_succ, i64_w, i32_w]
      rfl
    refine pure_ (i := 16) (N := some 63) (v := undef) (a' := ?_) #[true, true, true, true, true, true, true, true, true, true, true, true, true, true, true, true, true, false, false, false, false, false, false, false, false, false] rfl rfl (any_of HT_.out (by kernel_rfl)) (fun _ _ _ h => h) (Or.inr ⟨by rfl, rfl⟩) ?_ ?_
    rotate_left
    · simp only [Act.put, List.setIfInBounds_toArray, List.set_cons_zero, List.set_cons_succ, i64_w, i32_w]
      rfl
    refine pure_ (i := 17) (N := some 64) (v := undef) (a' := ?_) #[true, true, true, true, true, true, true, true, true, true, true, true, true, true, true, true, true, true, false, false, false, false, false, false, false, false] rfl rfl (any_of HT_.out (by kernel_rfl)) (fun _ _ _ h => h) (Or.inr ⟨by rfl, rfl⟩) ?_ ?_
    rotate_left
    · simp only [Act.put, List.setIfInBounds_toArray, List.set_cons_zero, List.set_cons_succ, i64_w, i32_w]
      rfl
    refine pure_ (i := 18) (N := some 65) (v := undef) (a' := ?_) #[true, true, true, true, true, true, true, true, true, true, true, true, true, true, true, true, true, true, true, false, false, false, false, false, false, false] rfl rfl (any_of HT_.out (by kernel_rfl)) (fun _ _ _ h => h) (Or.inr ⟨by rfl, rfl⟩) ?_ ?_
    rotate_left
    · simp only [Act.put, List.setIfInBounds_toArray, List.set_cons_zero, List.set_cons_succ, i64_w, i32_w]
      rfl
    refine pure_ (i := 19) (N := some 66) (v := undef) (a' := ?_) #[true, true, true, true, true, true, true, true, true, true, true, true, true, true, true, true, true, true, true, true, false, false, false, false, false, false] rfl rfl (any_of HT_.out (by kernel_rfl)) (fun _ _ _ h => h) (Or.inr ⟨by rfl, rfl⟩) ?_ ?_
    rotate_left
    · simp only [Act.put, List.setIfInBounds_toArray, List.set_cons_zero, List.set_cons_succ, i64_w, i32_w]
      rfl
    refine pure_ (i := 20) (N := some 67) (v := undef) (a' := ?_) #[true, true, true, true, true, true, true, true, true, true, true, true, true, true, true, true, true, true, true, true, true, false, false, false, false, false] rfl rfl (any_of HT_.out (by kernel_rfl)) (fun _ _ _ h => h) (Or.inr ⟨by rfl, rfl⟩) ?_ ?_
    rotate_left
    · simp only [Act.put, List.setIfInBounds_toArray, List.set_cons_zero, List.set_cons_succ, i64_w, i32_w]
      rfl
    refine pure_ (i := 21) (N := some 68) (v := undef) (a' := ?_) #[true, true, true, true, true, true, true, true, true, true, true, true, true, true, true, true, true, true, true, true, true, true, false, false, false, false] rfl rfl (any_of HT_.out (by kernel_rfl)) (fun _ _ _ h => h) (Or.inr ⟨by rfl, rfl⟩) ?_ ?_
    rotate_left
    · simp only [Act.put, List.setIfInBounds_toArray, List.set_cons_zero, List.set_cons_succ, i64_w, i32_w]
      rfl
    refine pure_ (i := 22) (N := some 69) (v := undef) (a' := ?_) #[true, true, true, true, true, true, true, true, true, true, true, true, true, true, true, true, true, true, true, true, true, true, true, false, false, false] rfl rfl (any_of HT_.out (by kernel_rfl)) (fun _ _ _ h => h) (Or.inr ⟨by rfl, rfl⟩) ?_ ?_
    rotate_left
    · simp only [Act.put, List.setIfInBounds_toArray, List.set_cons_zero, List.set_cons_succ, i64_w, i32_w]
      rfl
    refine pure_ (i := 23) (N := some 70) (v := undef) (a' := ?_) #[true, true, true, true, true, true, true, true, true, true, true, true, true, true, true, true, true, true, true, true, true, true, true, true, false, false] rfl rfl (any_of HT_.out (by kernel_rfl)) (fun _ _ _ h => h) (Or.inr ⟨by rfl, rfl⟩) ?_ ?_
    rotate_left
    · simp only [Act.put, List.setIfInBounds_toArray, List.set_cons_zero, List.set_cons_succ, i64_w, i32_w]
      rfl
    refine pure_ (i := 24) (N := some 71) (v := ?_) (a' := ?_) #[true, true, true, true, true, true, true, true, true, true, true, true, true, true, true, true, true, true, true, true, true, true, true, true, true, false] rfl rfl (any_of HT_.out (by kernel_rfl)) (fun _ _ _ h => h) (Or.inl ⟨by rfl, ?_⟩) ?_ ?_
    rotate_left
    · intro w'
      go_simp
      with_reducible rfl
    rotate_left
    · simp only [Act.put, List.setIfInBounds_toArray, List.set_cons_zero, List.set_cons_succ, i64_w, i32_w]
      rfl
    refine pure_ (i := 25) (N := some 72) (v := ?_) (a' := ?_) #[true, true, true, true, true, true, true, true, true, true, true, true, true, true, true, true, true, true, true, true, true, true, true, true, true, true] rfl rfl (any_of HT_.out (by kernel_rfl)) (fun _ _ _ h => h) (Or.inl ⟨by rfl, ?_⟩) ?_ ?_
    rotate_left
    · intro w'
      go_simp
      with_reducible rfl
    rotate_left
    · simp only [Act.put, List.setIfInBounds_toArray, List.set_cons_zero, List.set_cons_succ, i64_w, i32_w]
      rfl
    refine done_ (done_of HT_.out (by kernel_rfl)) ?_
    clear HT_ HW_ hHeld
    have H11 : Hp w _ [(0, Asn.old w (fun _ => False)), (0, Asn.rd U8 A2 b.length b)] := HD.keep [0, 1]
    clear HD
    have hsub : wrap64 ((b.length : Int) - (m : Int)) = sz := by rw [HSZ.out]; exact Cod.wr1 (by have := HM.out; omega) (by have := HLB.out; omega)
    go_wp2_with (first
      | (go_at_call 44; refine (HT44.out A2 c2 _ (H11.reads 1 rfl) HC.out).mono ?_; rintro e w12 ⟨rfl, hb⟩; have H12 := H11.same hb; clear hb H11)
      | ((with_reducible refine gate_dst (N := 12) rfl ?_); refine Hp.at_box H12 1 ?hg (N := 12) ?hd (cs := #[.string ⟨#[]⟩, .string ⟨#[]⟩, .bool false]) (t := 33) ?hr ?_; (case hd => rfl); (case hg => rfl); (case hr => first | (go_simp; done) | (go_simp; rfl)); intro g12 vg12 H13z; clear H12; have k0 := H13z.cell 2 rfl 0 (v := .string ⟨#[]⟩) rfl; have k1 := H13z.cell 2 rfl 1 (v := .string ⟨#[]⟩) rfl; have k2 := H13z.cell 2 rfl 2 (v := .bool false) rfl; have uk0 := H13z.unfrozen 2 rfl 0; have uk1 := H13z.unfrozen 2 rfl 1; have uk2 := H13z.unfrozen 2 rfl 2; have H13 := Hp.box_sets (i := 1) (p := 2) [.string y.f0, .string y.f1, .bool y.f2] 0 _ _ _ H13z rfl rfl; simp only [sets, Nat.zero_add, Nat.reduceAdd] at H13)
      | (go_at_call 45; refine (HT45.out A2 c2 _ (H13.reads 1 rfl) HC.out).mono ?_; rintro e w14 ⟨A14, c14, rfl, hb⟩; have H14 := H13.same hb; clear hb H13 H13z k0 k1 k2 uk0 uk1 uk2)
      | ((with_reducible refine gate_dst (N := 14) rfl ?_); refine Hp.at_box H14 2 ?hg (N := 14) ?hd (cs := #[.string ⟨#[]⟩, .string ⟨#[]⟩, .bool false]) (t := 33) ?hr ?_; (case hd => rfl); (case hg => rfl); (case hr => first | (go_simp; done) | (go_simp; rfl)); intro g14 vg14 H15z; clear H14; have k0 := H15z.cell 3 rfl 0 (v := .string ⟨#[]⟩) rfl; have k1 := H15z.cell 3 rfl 1 (v := .string ⟨#[]⟩) rfl; have k2 := H15z.cell 3 rfl 2 (v := .bool false) rfl; have uk0 := H15z.unfrozen 3 rfl 0; have uk1 := H15z.unfrozen 3 rfl 1; have uk2 := H15z.unfrozen 3 rfl 2; have H15 := Hp.box_sets (i := 2) (p := 3) [.string y.f0, .string y.f1, .bool y.f2] 0 _ _ _ H15z rfl rfl; simp only [sets, Nat.zero_add, Nat.reduceAdd] at H15; have r0 := H15.cell 2 rfl 0 (v := .string y.f0) rfl; have r1 := H15.cell 2 rfl 1 (v := .string y.f1) rfl; have r2 := H15.cell 2 rfl 2 (v := .bool y.f2) rfl; have t0 := H15.cell 3 rfl 0 (v := .string y.f0) rfl; have t1 := H15.cell 3 rfl 1 (v := .string y.f1) rfl; have t2 := H15.cell 3 rfl 2 (v := .bool y.f2) rfl))
    go_ret
    exact ⟨rfl, H15.below 0 rfl (fun _ h => h)⟩
set_option maxHeartbeats 16000000 in
set_option maxRecDepth 100000 in
theorem parts_go2 (a0 : Int) (x : S33) (A2 : Option Addr) (c2 : Nat) (b : List Int) (w : World)
    (hr : Kd.C U8 w A2 b.length b) (hc : b.length ≤ c2) (hb : Bytes b) (hl : b.length ≤ 140737488351232) (ha0 : 0 ≤ a0) (ha1 : a0 ≤ 4294967295) (he : wrE x = 0) (hbig : 1048576 < ahead a0 + (wB x).length) :
    Calls Try.prog 10 #[.int .u32 a0, .agg #[.string x.f0, .string x.f1, .bool x.f2], .slice A2 b.length c2] w fun e w' => e = .returned (.bool true) ∧ Below w.heap.size w w' := by
  have H0 := (Hp.start w).came (Kd.heap_int _) 0 rfl hr
  have hn := ahead_le ha0
  have hq1 := Int.emod_nonneg a0 (b := 1048577) (by decide)
  have hq2 := Int.emod_lt_of_pos a0 (b := 1048577) (by decide)
  have HN : Aside0 (ahead a0 ≤ 1048576) := ⟨hn⟩
  have HS : Aside0 ((((a0.tmod 7 != 0) = true ∧ (a0.tmod 7 == 0) = false) ∧ (a0.tmod 1048577).tmod 100 = (ahead a0 : Int)) ∨ (((a0.tmod 7 != 0) = false ∧ (a0.tmod 7 == 0) = true) ∧ a0.tmod 1048577 = (ahead a0 : Int))) := by
    constructor
    rw [Int.tmod_eq_emod_of_nonneg ha0, Int.tmod_eq_emod_of_nonneg ha0, Int.tmod_eq_emod_of_nonneg hq1]
    unfold ahead
    by_cases h7 : a0 % 7 = 0
    · rw [if_pos h7]
      exact .inr ⟨⟨by simp [h7], by simp [h7]⟩, by omega⟩
    · rw [if_neg h7]
      exact .inl ⟨⟨bne_iff_ne.mpr h7, beq_eq_false_iff_ne.mpr h7⟩, by omega⟩
  have HW1 : Aside0 (wrap64 (a0.tmod 1048577) = a0.tmod 1048577) := ⟨Cod.wr1 (x := a0.tmod 1048577) (by rw [Int.tmod_eq_emod_of_nonneg ha0]; omega) (by rw [Int.tmod_eq_emod_of_nonneg ha0]; omega)⟩
  generalize ahead a0 = n at hn HN HS hbig
  have HLB := Aside0.mk hl
  have HW2 : Aside0 (wrap64 (n : Int) = (n : Int)) := ⟨Cod.wr1 (by omega) (by omega)⟩
  obtain ⟨y, sz, et, m, hsz, hm, T44, T45⟩ := takeW_both hb hl
  have HT44 := Aside0.mk T44
  have HT45 := Aside0.mk T45
  have HSZ := Aside0.mk hsz
  have HM := Aside0.mk hm
  have HC := Aside0.mk hc
  have HCW := Aside0.mk (checkWriteR_eq x)
  obtain ⟨kp, hkp⟩ := (putW_big he n (by omega) hbig).rounds
  obtain ⟨kf, hkf⟩ := (refWrite_ev x (wr_sizes he).1 (wr_sizes he).2).rounds
  have hyl := wB_len (wr_sizes he).1 (wr_sizes he).2
  rw [he] at HCW
  generalize wB x = yb at hbig hkf hyl
  have HKP := Aside0.mk hkp
  have HKF := Aside0.mk hkf
  have hww : wrap64 ((n : Int) + (yb.length : Int)) = ((n + yb.length : Nat) : Int) := by rw [Cod.wr1 (by omega) (by omega)]; omega
  have hgt : (1048576 : Int) < ((n + yb.length : Nat) : Int) := by omega
  have hgt2 : decide ((1048576 : Int) < ((n + yb.length : Nat) : Int)) = true := decide_eq_true hgt
  have HYL := Aside0.mk hyl
  clear hkp hkf he hbig hyl
  have HPUT := Aside0.mk (fun A c W hv => putW_calls kp (fun _ => True) A c n x [] 3 W hv HKP.out)
  clear HKP
  clear hq1 hq2 hn T44 T45 hr hc hb hl ha0 ha1 hsz hm
  have hw1 := HW1.out
  rcases HS.out with ⟨⟨s1, s2⟩, hn1⟩ | ⟨⟨s1, s2⟩, hn1⟩
  · have HN1 := Aside0.mk hn1
    clear hn1
    go_enter Try.func10, Try.ntmps10
    go_upto_region 6 with (first
      | ((with_reducible refine gate_dst (N := 4) rfl ?_); refine Hp.at_box H0 1 ?hg (N := 4) ?hd (cs := #[.string x.f0, .string x.f1, .bool x.f2]) (t := 33) ?hr ?_; (case hd => rfl); (case hg => rfl); (case hr => first | (go_simp; done) | (go_simp; rfl)); intro g4 w1 H1; clear H0)
      | (go_at_call 17; refine (cressetlaw03_live.calls 0 true _ rfl).mono ?_; rintro e w2 ⟨rfl, hb⟩; have H2 := H1.same hb; clear hb H1))
    simp only [HN1.out, HW2.out]
    go_upto_region 11 with (first
      | ((with_reducible refine gate_dst (N := 28) rfl ?_); refine Hp.at_make U8 H2 2 5 ?hg (N := 28) ?hd 42 (.tmp 27) (.tmp 27) ?ho n ?hx ?hy Try.underlying42 (.int .u8 0) 1 info5 rfl (by decide) (by omega) 0 rfl (by have := HN.out; omega) ?_; (case hd => rfl); (case hg => rfl); (case ho => rfl); (case hx => rfl); (case hy => rfl); intro A8 c8 w3 hc8 H3'; have H3 : Hp w w3 [(0, Asn.old w (fun _ => False)), (0, Asn.rd U8 A2 b.length b), (1, Asn.box g4 #[.string x.f0, .string x.f1, .bool x.f2] 33), (2, Asn.row U8 5 (.slice A8 n c8) (List.replicate n 0))] := H3'; clear H3' H2; have HC8 := Aside0.mk hc8; clear hc8; have z0 := H3.cell 2 rfl 0 (v := .string x.f0) rfl; have z1 := H3.cell 2 rfl 1 (v := .string x.f1) rfl; have z2 := H3.cell 2 rfl 2 (v := .bool x.f2) rfl)
      | (go_at_call 12; refine (cressetref03_CheckWrite.calls x.f0 x.f1 x.f2 0 _ HCW.out).mono ?_; rintro e w4 ⟨rfl, hb⟩; clear z0 z1 z2; have H4 := H3.same hb; clear hb H3; have z0 := H4.cell 2 rfl 0 (v := .string x.f0) rfl; have z1 := H4.cell 2 rfl 1 (v := .string x.f1) rfl; have z2 := H4.cell 2 rfl 2 (v := .bool x.f2) rfl)
      | (go_at_call 42; refine (cressetref03_WriteForm.calls kf x.f0 x.f1 x.f2 yb _ HKF.out).mono ?_; rintro e w5 ⟨v5, rfl, hR, hb⟩; clear z0 z1 z2; have H5' := H4.made 3 hb hR; obtain ⟨A9, c9, rfl⟩ := Kd.R_slice hR; clear hR hb H4; have H5 : Hp w w5 [(0, Asn.old w (fun _ => False)), (0, Asn.rd U8 A2 b.length b), (1, Asn.box g4 #[.string x.f0, .string x.f1, .bool x.f2] 33), (2, Asn.row U8 5 (.slice A8 n c8) (List.replicate n 0)), (3, Asn.row U8 5 (.slice A9 yb.length c9) yb)] := H5'; clear H5'; have z0 := H5.cell 2 rfl 0 (v := .string x.f0) rfl; have z1 := H5.cell 2 rfl 1 (v := .string x.f1) rfl; have z2 := H5.cell 2 rfl 2 (v := .bool x.f2) rfl)
      | (go_at_call 43; refine (HPUT.out A8 c8 _ (H5.fact 3 rfl (fun S h => Kd.V_mono (Kd.R_V h) (fun _ _ => trivial)))).mono ?_; rintro e w6 ⟨v6, rfl, hR, hb⟩; clear z0 z1 z2; have H6' := H5.made 4 hb (Kd.R_mono hR (fun _ _ => trivial)); obtain ⟨A10, c10, rfl⟩ := Kd.R_slice hR; clear hR hb H5; have H6 : Hp w w6 [(0, Asn.old w (fun _ => False)), (0, Asn.rd U8 A2 b.length b), (1, Asn.box g4 #[.string x.f0, .string x.f1, .bool x.f2] 33), (2, Asn.row U8 5 (.slice A8 n c8) (List.replicate n 0)), (3, Asn.row U8 5 (.slice A9 yb.length c9) yb), (4, Asn.row U8 5 (.slice A10 0 c10) [])] := H6'; clear H6'; have z0 := H6.cell 2 rfl 0 (v := .string x.f0) rfl; have z1 := H6.cell 2 rfl 1 (v := .string x.f1) rfl; have z2 := H6.cell 2 rfl 2 (v := .bool x.f2) rfl))
    have HD := H6.drew
    clear z0 z1 z2
    clear H6
    refine start_ (n := 26) (S := fun w' => w'.cell? ⟨g4, 0, none⟩ = some (.string x.f0) ∧ w'.cell? ⟨g4, 1, none⟩ = some (.string x.f1) ∧ w'.cell? ⟨g4, 2, none⟩ = some (.bool x.f2)) (ds := []) #[false, false, false, false, false, false, false, false, false, false, false, false, false, false, false, false, false, false, false, false, false, false, false, false, false, false] (by kernel_rfl) rfl rfl ⟨(HD.cell 2 rfl 0 (v := .string x.f0) rfl), (HD.cell 2 rfl 1 (v := .string x.f1) rfl), (HD.cell 2 rfl 2 (v := .bool x.f2) rfl)⟩ (fun hHeld => ?_); refine with_tabW paT.tab11 paT.bits11 (fun HT_ HW_ => ?_)
    refine pure_ (i := 0) (N := some 47) (v := ?_) (a' := ?_) #[true, false, false, false, false, false, false, false, false, false, false, false, false, false, false, false, false, false, false, false, false, false, false, false, false, false] rfl rfl (any_of HT_.out (by kernel_rfl)) (fun _ _ _ h => h) (Or.inl ⟨by rfl, ?_⟩) ?_ ?_
    rotate_left
    · intro w'
      go_simp
      with_reducible rfl
    rotate_left
    · simp only [Act.put, List.setIfInBounds_toArray, List.set_cons_zero, List.set_cons_succ, i64_w, i32_w]
      rfl
    refine pure_ (i := 1) (N := some 48) (v := ?_) (a' := ?_) #[true, true, false, false, false, false, false, false, false, false, false, false, false, false, false, false, false, false, false, false, false, false, false, false, false, false] rfl rfl (any_of HT_.out (by kernel_rfl)) (fun _ _ _ h => h) (Or.inl ⟨by rfl, ?_⟩) ?_ ?_
    rotate_left
    · intro w'
      go_simp
      with_reducible rfl
    rotate_left
    · simp only [Act.put, List.setIfInBounds_toArray, List.set_cons_zero, List.set_cons_succ, i64_w, i32_w]
      rfl
    refine pure_ (i := 2) (N := some 49) (v := ?_) (a' := ?_) #[true, true, true, false, false, false, false, false, false, false, false, false, false, false, false, false, false, false, false, false, false, false, false, false, false, false] rfl rfl (any_of HT_.out (by kernel_rfl)) (fun _ _ _ h => h) (Or.inl ⟨by rfl, ?_⟩) ?_ ?_
    rotate_left
    · intro w'
      go_simp
      with_reducible rfl
    rotate_left
    · simp only [Act.put, List.setIfInBounds_toArray, List.set_cons_zero, List.set_cons_succ, i64_w, i32_w]
      rfl
    refine pure_ (i := 3) (N := some 50) (v := ?_) (a' := ?_) #[true, true, true, true, false, false, false, false, false, false, false, false, false, false, false, false, false, false, false, false, false, false, false, false, false, false] rfl rfl (any_of HT_.out (by kernel_rfl)) (fun _ _ _ h => h) (Or.inl ⟨by rfl, ?_⟩) ?_ ?_
    rotate_left
    · intro w'
      go_simp
      with_reducible rfl
    rotate_left
    · simp only [Act.put, List.setIfInBounds_toArray, List.set_cons_zero, List.set_cons_succ, i64_w, i32_w]
      rfl
    refine pure_ (i := 4) (N := some 51) (v := ?_) (a' := ?_) #[true, true, true, true, true, false, false, false, false, false, false, false, false, false, false, false, false, false, false, false, false, false, false, false, false, false] rfl rfl (any_of HT_.out (by kernel_rfl)) (fun _ _ _ h => h) (Or.inl ⟨by rfl, ?_⟩) ?_ ?_
    rotate_left
    · intro w'
      go_simp
      with_reducible rfl
    rotate_left
    · simp only [Act.put, List.setIfInBounds_toArray, List.set_cons_zero, List.set_cons_succ, i64_w, i32_w]
      rfl
    refine pure_ (i := 5) (N := some 52) (v := ?_) (a' := ?_) #[true, true, true, true, true, true, false, false, false, false, false, false, false, false, false, false, false, false, false, false, false, false, false, false, false, false] rfl rfl (any_of HT_.out (by kernel_rfl)) (fun _ _ _ h => h) (Or.inl ⟨by rfl, ?_⟩) ?_ ?_
    rotate_left
    · intro w'
      go_simp
      with_reducible rfl
    rotate_left
    · simp only [Act.put, List.setIfInBounds_toArray, List.set_cons_zero, List.set_cons_succ, i64_w, i32_w]
      rfl
    refine pure_ (i := 6) (N := some 53) (v := ?_) (a' := ?_) #[true, true, true, true, true, true, true, false, false, false, false, false, false, false, false, false, false, false, false, false, false, false, false, false, false, false] rfl rfl (any_of HT_.out (by kernel_rfl)) (fun _ _ _ h => h) (Or.inl ⟨by rfl, ?_⟩) ?_ ?_
    rotate_left
    · intro w'
      go_simp
      with_reducible rfl
    rotate_left
    · simp only [Act.put, List.setIfInBounds_toArray, List.set_cons_zero, List.set_cons_succ, i64_w, i32_w]
      rfl
    refine pure_ (i := 7) (N := some 54) (v := ?_) (a' := ?_) #[true, true, true, true, true, true, true, true, false, false, false, false, false, false, false, false, false, false, false, false, false, false, false, false, false, false] rfl rfl (any_of HT_.out (by kernel_rfl)) (fun _ _ _ h => h) (Or.inl ⟨by rfl, ?_⟩) ?_ ?_
    rotate_left
    · intro w'
      go_simp
      with_reducible rfl
    rotate_left
    · simp only [Act.put, List.setIfInBounds_toArray, List.set_cons_zero, List.set_cons_succ, i64_w, i32_w]
      rfl
    refine pure_ (i := 8) (N := some 55) (v := ?_) (a' := ?_) #[true, true, true, true, true, true, true, true, true, false, false, false, false, false, false, false, false, false, false, false, false, false, false, false, false, false] rfl rfl (any_of HT_.out (by kernel_rfl)) (fun _ _ _ h => h) (Or.inl ⟨by rfl, ?_⟩) ?_ ?_
    rotate_left
    · intro w'
      go_simp
      with_reducible rfl
    rotate_left
    · simp only [Act.put, List.setIfInBounds_toArray, List.set_cons_zero, List.set_cons_succ, i64_w, i32_w]
      rfl
    refine pure_ (i := 9) (N := some 56) (v := ?_) (a' := ?_) #[true, true, true, true, true, true, true, true, true, true, false, false, false, false, false, false, false, false, false, false, false, false, false, false, false, false] rfl rfl (any_of HT_.out (by kernel_rfl)) (fun _ _ _ h => h) (Or.inl ⟨by rfl, ?_⟩) ?_ ?_
    rotate_left
    · intro w'
      go_simp
      with_reducible rfl
    rotate_left
    · simp only [Act.put, List.setIfInBounds_toArray, List.set_cons_zero, List.set_cons_succ, i64_w, i32_w]
      rfl
    refine pure_ (i := 10) (N := some 57) (v := ?_) (a' := ?_) #[true, true, true, true, true, true, true, true, true, true, true, false, false, false, false, false, false, false, false, false, false, false, false, false, false, false] rfl rfl (any_of HT_.out (by kernel_rfl)) (fun _ _ _ h => h) (Or.inl ⟨by rfl, ?_⟩) ?_ ?_
    rotate_left
    · intro w'
      go_simp
      with_reducible rfl
    rotate_left
    · simp only [Act.put, List.setIfInBounds_toArray, List.set_cons_zero, List.set_cons_succ, i64_w, i32_w]
      rfl
    refine pure_ (i := 11) (N := some 58) (v := ?_) (a' := ?_) #[true, true, true, true, true, true, true, true, true, true, true, true, false, false, false, false, false, false, false, false, false, false, false, false, false, false] rfl rfl (any_of HT_.out (by kernel_rfl)) (fun _ _ _ h => h) (Or.inl ⟨by rfl, ?_⟩) ?_ ?_
    rotate_left
    · intro w'
      go_simp
      with_reducible rfl
    rotate_left
    · simp only [Act.put, List.setIfInBounds_toArray, List.set_cons_zero, List.set_cons_succ, i64_w, i32_w]
      rfl
    refine pure_ (i := 12) (N := some 59) (v := ?_) (a' := ?_) #[true, true, true, true, true, true, true, true, true, true, true, true, true, false, false, false, false, false, false, false, false, false, false, false, false, false] rfl rfl (any_of HT_.out (by kernel_rfl)) (fun _ _ _ h => h) (Or.inl ⟨by rfl, ?_⟩) ?_ ?_
    rotate_left
    · intro w'
      go_simp
      with_reducible rfl
    rotate_left
    · simp only [Act.put, List.setIfInBounds_toArray, List.set_cons_zero, List.set_cons_succ, i64_w, i32_w]
      rfl
    refine pure_ (i := 13) (N := some 60) (v := ?_) (a' := ?_) #[true, true, true, true, true, true, true, true, true, true, true, true, true, true, false, false, false, false, false, false, false, false, false, false, false, false] rfl rfl (any_of HT_.out (by kernel_rfl)) (fun _ _ _ h => h) (Or.inl ⟨by rfl, ?_⟩) ?_ ?_
    rotate_left
    · intro w'
      go_simp
      with_reducible rfl
    rotate_left
    · simp only [Act.put, List.setIfInBounds_toArray, List.set_cons_zero, List.set_cons_succ, i64_w, i32_w]
      rfl
    refine pure_ (i := 14) (N := some 61) (v := ?_) (a' := ?_) #[true, true, true, true, true, true, true, true, true, true, true, true, true, true, true, false, false, false, false, false, false, false, false, false, false, false] rfl rfl (any_of HT_.out (by kernel_rfl)) (fun _ _ _ h => h) (Or.inl ⟨by rfl, ?_⟩) ?_ ?_
    rotate_left
    · intro w'
      go_simp
      with_reducible rfl
    rotate_left
    · simp only [Act.put, List.setIfInBounds_toArray, List.set_cons_zero, List.set_cons_succ, i64_w, i32_w]
      rfl
    refine pure_ (i := 15) (N := some 62) (v := ?_) (a' := ?_) #[true, true, true, true, true, true, true, true, true, true, true, true, true, true, true, true, false, false, false, false, false, false, false, false, false, false] rfl rfl (any_of HT_.out (by kernel_rfl)) (fun _ _ _ h => h) (Or.inl ⟨by rfl, ?_⟩) ?_ ?_
    rotate_left
    · intro w'
      go_simp
      with_reducible rfl
    rotate_left
    · simp only [Act.put, List.setIfInBounds_toArray, List.set_cons_zero, List.set_cons_succ, i64_w, i32_w]
      rfl
    refine pure_ (i := 16) (N := some 63) (v := undef) (a' := ?_) #[true, true, true, true, true, true, true, true, true, true, true, true, true, true, true, true, true, false, false, false, false, false, false, false, false, false] rfl rfl (any_of HT_.out (by kernel_rfl)) (fun _ _ _ h => h) (Or.inr ⟨by rfl, rfl⟩) ?_ ?_
    rotate_left
    · simp only [Act.put, List.setIfInBounds_toArray, List.set_cons_zero, List.set_cons_succ, i64_w, i32_w]
      rfl
    refine pure_ (i := 17) (N := some 64) (v := undef) (a' := ?_) #[true, true, true, true, true, true, true, true, true, true, true, true, true, true, true, true, true, true, false, false, false, false, false, false, false, false] rfl rfl (any_of HT_.out (by kernel_rfl)) (fun _ _ _ h => h) (Or.inr ⟨by rfl, rfl⟩) ?_ ?_
    rotate_left
    · simp only [Act.put, List.setIfInBounds_toArray, List.set_cons_zero, List.set_cons_succ, i64_w, i32_w]
      rfl
    refine pure_ (i := 18) (N := some 65) (v := undef) (a' := ?_) #[true, true, true, true, true, true, true, true, true, true, true, true, true, true, true, true, true, true, true, false, false, false, false, false, false, false] rfl rfl (any_of HT_.out (by kernel_rfl)) (fun _ _ _ h => h) (Or.inr ⟨by rfl, rfl⟩) ?_ ?_
    rotate_left
    · simp only [Act.put, List.setIfInBounds_toArray, List.set_cons_zero, List.set_cons_succ, i64_w, i32_w]
      rfl
    refine pure_ (i := 19) (N := some 66) (v := undef) (a' := ?_) #[true, true, true, true, true, true, true, true, true, true, true, true, true, true, true, true, true, true, true, true, false, false, false, false, false, false] rfl rfl (any_of HT_.out (by kernel_rfl)) (fun _ _ _ h => h) (Or.inr ⟨by rfl, rfl⟩) ?_ ?_
    rotate_left
    · simp only [Act.put, List.setIfInBounds_toArray, List.set_cons_zero, List.set_cons_succ, i64_w, i32_w]
      rfl
    refine pure_ (i := 20) (N := some 67) (v := undef) (a' := ?_) #[true, true, true, true, true, true, true, true, true, true, true, true, true, true, true, true, true, true, true, true, true, false, false, false, false, false] rfl rfl (any_of HT_.out (by kernel_rfl)) (fun _ _ _ h => h) (Or.inr ⟨by rfl, rfl⟩) ?_ ?_
    rotate_left
    · simp only [Act.put, List.setIfInBounds_toArray, List.set_cons_zero, List.set_cons_succ, i64_w, i32_w]
      rfl
    refine pure_ (i := 21) (N := some 68) (v := undef) (a' := ?_) #[true, true, true, true, true, true, true, true, true, true, true, true, true, true, true, true, true, true, true, true, true, true, false, false, false, false] rfl rfl (any_of HT_.out (by kernel_rfl)) (fun _ _ _ h => h) (Or.inr ⟨by rfl, rfl⟩) ?_ ?_
    rotate_left
    · simp only [Act.put, List.setIfInBounds_toArray, List.set_cons_zero, List.set_cons_succ, i64_w, i32_w]
      rfl
    refine pure_ (i := 22) (N := some 69) (v := undef) (a' := ?_) #[true, true, true, true, true, true, true, true, true, true, true, true, true, true, true, true, true, true, true, true, true, true, true, false, false, false] rfl rfl (any_of HT_.out (by kernel_rfl)) (fun _ _ _ h => h) (Or.inr ⟨by rfl, rfl⟩) ?_ ?_
    rotate_left
    · simp only [Act.put, List.setIfInBounds_toArray, List.set_cons_zero, List.set_cons_succ, i64_w, i32_w]
      rfl
    refine pure_ (i := 23) (N := some 70) (v := undef) (a' := ?_) #[true, true, true, true, true, true, true, true, true, true, true, true, true, true, true, true, true, true, true, true, true, true, true, true, false, false] rfl rfl (any_of HT_.out (by kernel_rfl)) (fun _ _ _ h => h) (Or.inr ⟨by rfl, rfl⟩) ?_ ?_
    rotate_left
    · simp only [Act.put, List.setIfInBounds_toArray, List.set_cons_zero, List.set_cons_succ, i64_w, i32_w]
      rfl
    refine pure_ (i := 24) (N := some 71) (v := ?_) (a' := ?_) #[true, true, true, true, true, true, true, true, true, true, true, true, true, true, true, true, true, true, true, true, true, true, true, true, true, false] rfl rfl (any_of HT_.out (by kernel_rfl)) (fun _ _ _ h => h) (Or.inl ⟨by rfl, ?_⟩) ?_ ?_
    rotate_left
    · intro w'
      go_simp
      with_reducible rfl
    rotate_left
    · simp only [Act.put, List.setIfInBounds_toArray, List.set_cons_zero, List.set_cons_succ, i64_w, i32_w]
      rfl
    refine pure_ (i := 25) (N := some 72) (v := ?_) (a' := ?_) #[true, true, true, true, true, true, true, true, true, true, true, true, true, true, true, true, true, true, true, true, true, true, true, true, true, true] rfl rfl (any_of HT_.out (by kernel_rfl)) (fun _ _ _ h => h) (Or.inl ⟨by rfl, ?_⟩) ?_ ?_
    rotate_left
    · intro w'
      go_simp
      with_reducible rfl
    rotate_left
    · simp only [Act.put, List.setIfInBounds_toArray, List.set_cons_zero, List.set_cons_succ, i64_w, i32_w]
      rfl
    refine done_ (done_of HT_.out (by kernel_rfl)) ?_
    clear HT_ HW_ hHeld
    have H11 : Hp w _ [(0, Asn.old w (fun _ => False)), (0, Asn.rd U8 A2 b.length b)] := HD.keep [0, 1]
    clear HD
    have hsub : wrap64 ((b.length : Int) - (m : Int)) = sz := by rw [HSZ.out]; exact Cod.wr1 (by have := HM.out; omega) (by have := HLB.out; omega)
    go_wp2_with (first
      | (go_at_call 44; refine (HT44.out A2 c2 _ (H11.reads 1 rfl) HC.out).mono ?_; rintro e w12 ⟨rfl, hb⟩; have H12 := H11.same hb; clear hb H11)
      | ((with_reducible refine gate_dst (N := 12) rfl ?_); refine Hp.at_box H12 1 ?hg (N := 12) ?hd (cs := #[.string ⟨#[]⟩, .string ⟨#[]⟩, .bool false]) (t := 33) ?hr ?_; (case hd => rfl); (case hg => rfl); (case hr => first | (go_simp; done) | (go_simp; rfl)); intro g12 vg12 H13z; clear H12; have k0 := H13z.cell 2 rfl 0 (v := .string ⟨#[]⟩) rfl; have k1 := H13z.cell 2 rfl 1 (v := .string ⟨#[]⟩) rfl; have k2 := H13z.cell 2 rfl 2 (v := .bool false) rfl; have uk0 := H13z.unfrozen 2 rfl 0; have uk1 := H13z.unfrozen 2 rfl 1; have uk2 := H13z.unfrozen 2 rfl 2; have H13 := Hp.box_sets (i := 1) (p := 2) [.string y.f0, .string y.f1, .bool y.f2] 0 _ _ _ H13z rfl rfl; simp only [sets, Nat.zero_add, Nat.reduceAdd] at H13)
      | (go_at_call 45; refine (HT45.out A2 c2 _ (H13.reads 1 rfl) HC.out).mono ?_; rintro e w14 ⟨A14, c14, rfl, hb⟩; have H14 := H13.same hb; clear hb H13 H13z k0 k1 k2 uk0 uk1 uk2)
      | ((with_reducible refine gate_dst (N := 14) rfl ?_); refine Hp.at_box H14 2 ?hg (N := 14) ?hd (cs := #[.string ⟨#[]⟩, .string ⟨#[]⟩, .bool false]) (t := 33) ?hr ?_; (case hd => rfl); (case hg => rfl); (case hr => first | (go_simp; done) | (go_simp; rfl)); intro g14 vg14 H15z; clear H14; have k0 := H15z.cell 3 rfl 0 (v := .string ⟨#[]⟩) rfl; have k1 := H15z.cell 3 rfl 1 (v := .string ⟨#[]⟩) rfl; have k2 := H15z.cell 3 rfl 2 (v := .bool false) rfl; have uk0 := H15z.unfrozen 3 rfl 0; have uk1 := H15z.unfrozen 3 rfl 1; have uk2 := H15z.unfrozen 3 rfl 2; have H15 := Hp.box_sets (i := 2) (p := 3) [.string y.f0, .string y.f1, .bool y.f2] 0 _ _ _ H15z rfl rfl; simp only [sets, Nat.zero_add, Nat.reduceAdd] at H15; have r0 := H15.cell 2 rfl 0 (v := .string y.f0) rfl; have r1 := H15.cell 2 rfl 1 (v := .string y.f1) rfl; have r2 := H15.cell 2 rfl 2 (v := .bool y.f2) rfl; have t0 := H15.cell 3 rfl 0 (v := .string y.f0) rfl; have t1 := H15.cell 3 rfl 1 (v := .string y.f1) rfl; have t2 := H15.cell 3 rfl 2 (v := .bool y.f2) rfl))
    go_ret
    exact ⟨rfl, H15.below 0 rfl (fun _ h => h)⟩
  · have HN1 := Aside0.mk hn1
    clear hn1
    go_enter Try.func10, Try.ntmps10
    go_upto_region 6 with (first
      | ((with_reducible refine gate_dst (N := 4) rfl ?_); refine Hp.at_box H0 1 ?hg (N := 4) ?hd (cs := #[.string x.f0, .string x.f1, .bool x.f2]) (t := 33) ?hr ?_; (case hd => rfl); (case hg => rfl); (case hr => first | (go_simp; done) | (go_simp; rfl)); intro g4 w1 H1; clear H0)
      | (go_at_call 17; refine (cressetlaw03_live.calls 0 true _ rfl).mono ?_; rintro e w2 ⟨rfl, hb⟩; have H2 := H1.same hb; clear hb H1))
    simp only [HN1.out, HW2.out]
    go_upto_region 11 with (first
      | ((with_reducible refine gate_dst (N := 28) rfl ?_); refine Hp.at_make U8 H2 2 5 ?hg (N := 28) ?hd 42 (.tmp 27) (.tmp 27) ?ho n ?hx ?hy Try.underlying42 (.int .u8 0) 1 info5 rfl (by decide) (by omega) 0 rfl (by have := HN.out; omega) ?_; (case hd => rfl); (case hg => rfl); (case ho => rfl); (case hx => rfl); (case hy => rfl); intro A8 c8 w3 hc8 H3'; have H3 : Hp w w3 [(0, Asn.old w (fun _ => False)), (0, Asn.rd U8 A2 b.length b), (1, Asn.box g4 #[.string x.f0, .string x.f1, .bool x.f2] 33), (2, Asn.row U8 5 (.slice A8 n c8) (List.replicate n 0))] := H3'; clear H3' H2; have HC8 := Aside0.mk hc8; clear hc8; have z0 := H3.cell 2 rfl 0 (v := .string x.f0) rfl; have z1 := H3.cell 2 rfl 1 (v := .string x.f1) rfl; have z2 := H3.cell 2 rfl 2 (v := .bool x.f2) rfl)
      | (go_at_call 12; refine (cressetref03_CheckWrite.calls x.f0 x.f1 x.f2 0 _ HCW.out).mono ?_; rintro e w4 ⟨rfl, hb⟩; clear z0 z1 z2; have H4 := H3.same hb; clear hb H3; have z0 := H4.cell 2 rfl 0 (v := .string x.f0) rfl; have z1 := H4.cell 2 rfl 1 (v := .string x.f1) rfl; have z2 := H4.cell 2 rfl 2 (v := .bool x.f2) rfl)
      | (go_at_call 42; refine (cressetref03_WriteForm.calls kf x.f0 x.f1 x.f2 yb _ HKF.out).mono ?_; rintro e w5 ⟨v5, rfl, hR, hb⟩; clear z0 z1 z2; have H5' := H4.made 3 hb hR; obtain ⟨A9, c9, rfl⟩ := Kd.R_slice hR; clear hR hb H4; have H5 : Hp w w5 [(0, Asn.old w (fun _ => False)), (0, Asn.rd U8 A2 b.length b), (1, Asn.box g4 #[.string x.f0, .string x.f1, .bool x.f2] 33), (2, Asn.row U8 5 (.slice A8 n c8) (List.replicate n 0)), (3, Asn.row U8 5 (.slice A9 yb.length c9) yb)] := H5'; clear H5'; have z0 := H5.cell 2 rfl 0 (v := .string x.f0) rfl; have z1 := H5.cell 2 rfl 1 (v := .string x.f1) rfl; have z2 := H5.cell 2 rfl 2 (v := .bool x.f2) rfl)
      | (go_at_call 43; refine (HPUT.out A8 c8 _ (H5.fact 3 rfl (fun S h => Kd.V_mono (Kd.R_V h) (fun _ _ => trivial)))).mono ?_; rintro e w6 ⟨v6, rfl, hR, hb⟩; clear z0 z1 z2; have H6' := H5.made 4 hb (Kd.R_mono hR (fun _ _ => trivial)); obtain ⟨A10, c10, rfl⟩ := Kd.R_slice hR; clear hR hb H5; have H6 : Hp w w6 [(0, Asn.old w (fun _ => False)), (0, Asn.rd U8 A2 b.length b), (1, Asn.box g4 #[.string x.f0, .string x.f1, .bool x.f2] 33), (2, Asn.row U8 5 (.slice A8 n c8) (List.replicate n 0)), (3, Asn.row U8 5 (.slice A9 yb.length c9) yb), (4, Asn.row U8 5 (.slice A10 0 c10) [])] := H6'; clear H6'; have z0 := H6.cell 2 rfl 0 (v := .string x.f0) rfl; have z1 := H6.cell 2 rfl 1 (v := .string x.f1) rfl; have z2 := H6.cell 2 rfl 2 (v := .bool x.f2) rfl))
    have HD := H6.drew
    clear z0 z1 z2
    clear H6
    refine start_ (n := 26) (S := fun w' => w'.cell? ⟨g4, 0, none⟩ = some (.string x.f0) ∧ w'.cell? ⟨g4, 1, none⟩ = some (.string x.f1) ∧ w'.cell? ⟨g4, 2, none⟩ = some (.bool x.f2)) (ds := []) #[false, false, false, false, false, false, false, false, false, false, false, false, false, false, false, false, false, false, false, false, false, false, false, false, false, false] (by kernel_rfl) rfl rfl ⟨(HD.cell 2 rfl 0 (v := .string x.f0) rfl), (HD.cell 2 rfl 1 (v := .string x.f1) rfl), (HD.cell 2 rfl 2 (v := .bool x.f2) rfl)⟩ (fun hHeld => ?_); refine with_tabW paT.tab11 paT.bits11 (fun HT_ HW_ => ?_)
    refine pure_ (i := 0) (N := some 47) (v := ?_) (a' := ?_) #[true, false, false, false, false, false, false, false, false, false, false, false, false, false, false, false, false, false, false, false, false, false, false, false, false, false] rfl rfl (any_of HT_.out (by kernel_rfl)) (fun _ _ _ h => h) (Or.inl ⟨by rfl, ?_⟩) ?_ ?_
    rotate_left
    · intro w'
      go_simp
      with_reducible rfl
    rotate_left
    · simp only [Act.put, List.setIfInBounds_toArray, List.set_cons_zero, List.set_cons_succ, i64_w, i32_w]
      rfl
    refine pure_ (i := 1) (N := some 48) (v := ?_) (a' := ?_) #[true, true, false, false, false, false, false, false, false, false, false, false, false, false, false, false, false, false, false, false, false, false, false, false, false, false] rfl rfl (any_of HT_.out (by kernel_rfl)) (fun _ _ _ h => h) (Or.inl ⟨by rfl, ?_⟩) ?_ ?_
    rotate_left
    · intro w'
      go_simp
      with_reducible rfl
    rotate_left
    · simp only [Act.put, List.setIfInBounds_toArray, List.set_cons_zero, List.set_cons_succ, i64_w, i32_w]
      rfl
    refine pure_ (i := 2) (N := some 49) (v := ?_) (a' := ?_) #[true, true, true, false, false, false, false, false, false, false, false, false, false, false, false, false, false, false, false, false, false, false, false, false, false, false] rfl rfl (any_of HT_.out (by kernel_rfl)) (fun _ _ _ h => h) (Or.inl ⟨by rfl, ?_⟩) ?_ ?_
    rotate_left
    · intro w'
      go_simp
      with_reducible rfl
    rotate_left
    · simp only [Act.put, List.setIfInBounds_toArray, List.set_cons_zero, List.set_cons_succ, i64_w, i32_w]
      rfl
    refine pure_ (i := 3) (N := some 50) (v := ?_) (a' := ?_) #[true, true, true, true, false, false, false, false, false, false, false, false, false, false, false, false, false, false, false, false, false, false, false, false, false, false] rfl rfl (any_of HT_.out (by kernel_rfl)) (fun _ _ _ h => h) (Or.inl ⟨by rfl, ?_⟩) ?_ ?_
    rotate_left
    · intro w'
      go_simp
      with_reducible rfl
    rotate_left
    · simp only [Act.put, List.setIfInBounds_toArray, List.set_cons_zero, List.set_cons_succ, i64_w, i32_w]
      rfl
    refine pure_ (i := 4) (N := some 51) (v := ?_) (a' := ?_) #[true, true, true, true, true, false, false, false, false, false, false, false, false, false, false, false, false, false, false, false, false, false, false, false, false, false] rfl rfl (any_of HT_.out (by kernel_rfl)) (fun _ _ _ h => h) (Or.inl ⟨by rfl, ?_⟩) ?_ ?_
    rotate_left
    · intro w'
      go_simp
      with_reducible rfl
    rotate_left
    · simp only [Act.put, List.setIfInBounds_toArray, List.set_cons_zero, List.set_cons_succ, i64_w, i32_w]
      rfl
    refine pure_ (i := 5) (N := some 52) (v := ?_) (a' := ?_) #[true, true, true, true, true, true, false, false, false, false, false, false, false, false, false, false, false, false, false, false, false, false, false, false, false, false] rfl rfl (any_of HT_.out (by kernel_rfl)) (fun _ _ _ h => h) (Or.inl ⟨by rfl, ?_⟩) ?_ ?_
    rotate_left
    · intro w'
      go_simp
      with_reducible rfl
    rotate_left
    · simp only [Act.put, List.setIfInBounds_toArray, List.set_cons_zero, List.set_cons_succ, i64_w, i32_w]
      rfl
    refine pure_ (i := 6) (N := some 53) (v := ?_) (a' := ?_) #[true, true, true, true, true, true, true, false, false, false, false, false, false, false, false, false, false, false, false, false, false, false, false, false, false, false] rfl rfl (any_of HT_.out (by kernel_rfl)) (fun _ _ _ h => h) (Or.inl ⟨by rfl, ?_⟩) ?_ ?_
    rotate_left
    · intro w'
      go_simp
      with_reducible rfl
    rotate_left
    · simp only [Act.put, List.setIfInBounds_toArray, List.set_cons_zero, List.set_cons_succ, i64_w, i32_w]
      rfl
    refine pure_ (i := 7) (N := some 54) (v := ?_) (a' := ?_) #[true, true, true, true, true, true, true, true, false, false, false, false, false, false, false, false, false, false, false, false, false, false, false, false, false, false] rfl rfl (any_of HT_.out (by kernel_rfl)) (fun _ _ _ h => h) (Or.inl ⟨by rfl, ?_⟩) ?_ ?_
    rotate_left
    · intro w'
      go_simp
      with_reducible rfl
    rotate_left
    · simp only [Act.put, List.setIfInBounds_toArray, List.set_cons_zero, List.set_cons_succ, i64_w, i32_w]
      rfl
    refine pure_ (i := 8) (N := some 55) (v := ?_) (a' := ?_) #[true, true, true, true, true, true, true, true, true, false, false, false, false, false, false, false, false, false, false, false, false, false, false, false, false, false] rfl rfl (any_of HT_.out (by kernel_rfl)) (fun _ _ _ h => h) (Or.inl ⟨by rfl, ?_⟩) ?_ ?_
    rotate_left
    · intro w'
      go_simp
      with_reducible rfl
    rotate_left
    · simp only [Act.put, List.setIfInBounds_toArray, List.set_cons_zero, List.set_cons_succ, i64_w, i32_w]
      rfl
    refine pure_ (i := 9) (N := some 56) (v := ?_) (a' := ?_) #[true, true, true, true, true, true, true, true, true, true, false, false, false, false, false, false, false, false, false, false, false, false, false, false, false, false] rfl rfl (any_of HT_.out (by kernel_rfl)) (fun _ _ _ h => h) (Or.inl ⟨by rfl, ?_⟩) ?_ ?_
    rotate_left
    · intro w'
      go_simp
      with_reducible rfl
    rotate_left
    · simp only [Act.put, List.setIfInBounds_toArray, List.set_cons_zero, List.set_cons_succ, i64_w, i32_w]
      rfl
    refine pure_ (i := 10) (N := some 57) (v := ?_) (a' := ?_) #[true, true, true, true, true, true, true, true, true, true, true, false, false, false, false, false, false, false, false, false, false, false, false, false, false, false] rfl rfl (any_of HT_.out (by kernel_rfl)) (fun _ _ _ h => h) (Or.inl ⟨by rfl, ?_⟩) ?_ ?_
    rotate_left
    · intro w'
      go_simp
      with_reducible rfl
    rotate_left
    · simp only [Act.put, List.setIfInBounds_toArray, List.set_cons_zero, List.set_cons_succ, i64_w, i32_w]
      rfl
    refine pure_ (i := 11) (N := some 58) (v := ?_) (a' := ?_) #[true, true, true, true, true, true, true, true, true, true, true, true, false, false, false, false, false, false, false, false, false, false, false, false, false, false] rfl rfl (any_of HT_.out (by kernel_rfl)) (fun _ _ _ h => h) (Or.inl ⟨by rfl, ?_⟩) ?_ ?_
    rotate_left
    · intro w'
      go_simp
      with_reducible rfl
    rotate_left
    · simp only [Act.put, List.setIfInBounds_toArray, List.set_cons_zero, List.set_cons_succ, i64_w, i32_w]
      rfl
    refine pure_ (i := 12) (N := some 59) (v := ?_) (a' := ?_) #[true, true, true, true, true, true, true, true, true, true, true, true, true, false, false, false, false, false, false, false, false, false, false, false, false, false] rfl rfl (any_of HT_.out (by kernel_rfl)) (fun _ _ _ h => h) (Or.inl ⟨by rfl, ?_⟩) ?_ ?_
    rotate_left
    · intro w'
      go_simp
      with_reducible rfl
    rotate_left
    · simp only [Act.put, List.setIfInBounds_toArray, List.set_cons_zero, List.set_cons_succ, i64_w, i32_w]
      rfl
    refine pure_ (i := 13) (N := some 60) (v := ?_) (a' := ?_) #[true, true, true, true, true, true, true, true, true, true, true, true, true, true, false, false, false, false, false, false, false, false, false, false, false, false] rfl rfl (any_of HT_.out (by kernel_rfl)) (fun _ _ _ h => h) (Or.inl ⟨by rfl, ?_⟩) ?_ ?_
    rotate_left
    · intro w'
      go_simp
      with_reducible rfl
    rotate_left
    · simp only [Act.put, List.setIfInBounds_toArray, List.set_cons_zero, List.set_cons_succ, i64_w, i32_w]
      rfl
    refine pure_ (i := 14) (N := some 61) (v := ?_) (a' := ?_) #[true, true, true, true, true, true, true, true, true, true, true, true, true, true, true, false, false, false, false, false, false, false, false, false, false, false] rfl rfl (any_of HT_.out (by kernel_rfl)) (fun _ _ _ h => h) (Or.inl ⟨by rfl, ?_⟩) ?_ ?_
    rotate_left
    · intro w'
      go_simp
      with_reducible rfl
    rotate_left
    · simp only [Act.put, List.setIfInBounds_toArray, List.set_cons_zero, List.set_cons_succ, i64_w, i32_w]
      rfl
    refine pure_ (i := 15) (N := some 62) (v := ?_) (a' := ?_) #[true, true, true, true, true, true, true, true, true, true, true, true, true, true, true, true, false, false, false, false, false, false, false, false, false, false] rfl rfl (any_of HT_.out (by kernel_rfl)) (fun _ _ _ h => h) (Or.inl ⟨by rfl, ?_⟩) ?_ ?_
    rotate_left
    · intro w'
      go_simp
      with_reducible rfl
    rotate_left
    · simp only [Act.put, List.setIfInBounds_toArray, List.set_cons_zero, List.set_cons_succ, i64_w, i32_w]
      rfl
    refine pure_ (i := 16) (N := some 63) (v := undef) (a' := ?_) #[true, true, true, true, true, true, true, true, true, true, true, true, true, true, true, true, true, false, false, false, false, false, false, false, false, false] rfl rfl (any_of HT_.out (by kernel_rfl)) (fun _ _ _ h => h) (Or.inr ⟨by rfl, rfl⟩) ?_ ?_
    rotate_left
    · simp only [Act.put, List.setIfInBounds_toArray, List.set_cons_zero, List.set_cons_succ, i64_w, i32_w]
      rfl
    refine pure_ (i := 17) (N := some 64) (v := undef) (a' := ?_) #[true, true, true, true, true, true, true, true, true, true, true, true, true, true, true, true, true, true, false, false, false, false, false, false, false, false] rfl rfl (any_of HT_.out (by kernel_rfl)) (fun _ _ _ h => h) (Or.inr ⟨by rfl, rfl⟩) ?_ ?_
    rotate_left
    · simp only [Act.put, List.setIfInBounds_toArray, List.set_cons_zero, List.set_cons_succ, i64_w, i32_w]
      rfl
    refine pure_ (i := 18) (N := some 65) (v := undef) (a' := ?_) #[true, true, true, true, true, true, true, true, true, true, true, true, true, true, true, true, true, true, true, false, false, false, false, false, false, false] rfl rfl (any_of HT_.out (by kernel_rfl)) (fun _ _ _ h => h) (Or.inr ⟨by rfl, rfl⟩) ?_ ?_
    rotate_left
    · simp only [Act.put, List.setIfInBounds_toArray, List.set_cons_zero, List.set_cons_succ, i64_w, i32_w]
      rfl
    refine pure_ (i := 19) (N := some 66) (v := undef) (a' := ?_) #[true, true, true, true, true, true, true, true, true, true, true, true, true, true, true, true, true, true, true, true, false, false, false, false, false, false] rfl rfl (any_of HT_.out (by kernel_rfl)) (fun _ _ _ h => h) (Or.inr ⟨by rfl, rfl⟩) ?_ ?_
    rotate_left
    · simp only [Act.put, List.setIfInBounds_toArray, List.set_cons_zero, List.set_cons_succ, i64_w, i32_w]
      rfl
    refine pure_ (i := 20) (N := some 67) (v := undef) (a' := ?_) #[true, true, true, true, true, true, true, true, true, true, true, true, true, true, true, true, true, true, true, true, true, false, false, false, false, false] rfl rfl (any_of HT_.out (by kernel_rfl)) (fun _ _ _ h => h) (Or.inr ⟨by rfl, rfl⟩) ?_ ?_
    rotate_left
    · simp only [Act.put, List.setIfInBounds_toArray, List.set_cons_zero, List.set_cons_succ, i64_w, i32_w]
      rfl
    refine pure_ (i := 21) (N := some 68) (v := undef) (a' := ?_) #[true, true, true, true, true, true, true, true, true, true, true, true, true, true, true, true, true, true, true, true, true, true, false, false, false, false] rfl rfl (any_of HT_.out (by kernel_rfl)) (fun _ _ _ h => h) (Or.inr ⟨by rfl, rfl⟩) ?_ ?_
    rotate_left
    · simp only [Act.put, List.setIfInBounds_toArray, List.set_cons_zero, List.set_cons_succ, i64_w, i32_w]
      rfl
    refine pure_ (i := 22) (N := some 69) (v := undef) (a' := ?_) #[true, true, true, true, true, true, true, true, true, true, true, true, true, true, true, true, true, true, true, true, true, true, true, false, false, false] rfl rfl (any_of HT_.out (by kernel_rfl)) (fun _ _ _ h => h) (Or.inr ⟨by rfl, rfl⟩) ?_ ?_
    rotate_left
    · simp only [Act.put, List.setIfInBounds_toArray, List.set_cons_zero, List.set_cons_succ, i64_w, i32_w]
      rfl
    refine pure_ (i := 23) (N := some 70) (v := undef) (a' := ?_) #[true, true, true, true, true, true, true, true, true, true, true, true, true, true, true, true, true, true, true, true, true, true, true, true, false, false] rfl rfl (any_of HT_.out (by kernel_rfl)) (fun _ _ _ h => h) (Or.inr ⟨by rfl, rfl⟩) ?_ ?_
    rotate_left
    · simp only [Act.put, List.setIfInBounds_toArray, List.set_cons_zero, List.set_cons_succ, i64_w, i32_w]
      rfl
    refine pure_ (i := 24) (N := some 71) (v := ?_) (a' := ?_) #[true, true, true, true, true, true, true, true, true, true, true, true, true, true, true, true, true, true, true, true, true, true, true, true, true, false] rfl rfl (any_of HT_.out (by kernel_rfl)) (fun _ _ _ h => h) (Or.inl ⟨by rfl, ?_⟩) ?_ ?_
    rotate_left
    · intro w'
      go_simp
      with_reducible rfl
    rotate_left
    · simp only [Act.put, List.setIfInBounds_toArray, List.set_cons_zero, List.set_cons_succ, i64_w, i32_w]
      rfl
    refine pure_ (i := 25) (N := some 72) (v := ?_) (a' := ?_) #[true, true, true, true, true, true, true, true, true, true, true, true, true, true, true, true, true, true, true, true, true, true, true, true, true, true] rfl rfl (any_of HT_.out (by kernel_rfl)) (fun _ _ _ h => h) (Or.inl ⟨by rfl, ?_⟩) ?_ ?_
    rotate_left
    · intro w'
      go_simp
      with_reducible rfl
    rotate_left
    · simp only [Act.put, List.setIfInBounds_toArray, List.set_cons_zero, List.set_cons_succ, i64_w, i32_w]
      rfl
    refine done_ (done_of HT_.out (by kernel_rfl)) ?_
    clear HT_ HW_ hHeld
    have H11 : Hp w _ [(0, Asn.old w (fun _ => False)), (0, Asn.rd U8 A2 b.length b)] := HD.keep [0, 1]
    clear HD
    have hsub : wrap64 ((b.length : Int) - (m : Int)) = sz := by rw [HSZ.out]; exact Cod.wr1 (by have := HM.out; omega) (by have := HLB.out; omega)
    go_wp2_with (first
      | (go_at_call 44; refine (HT44.out A2 c2 _ (H11.reads 1 rfl) HC.out).mono ?_; rintro e w12 ⟨rfl, hb⟩; have H12 := H11.same hb; clear hb H11)
      | ((with_reducible refine gate_dst (N := 12) rfl ?_); refine Hp.at_box H12 1 ?hg (N := 12) ?hd (cs := #[.string ⟨#[]⟩, .string ⟨#[]⟩, .bool false]) (t := 33) ?hr ?_; (case hd => rfl); (case hg => rfl); (case hr => first | (go_simp; done) | (go_simp; rfl)); intro g12 vg12 H13z; clear H12; have k0 := H13z.cell 2 rfl 0 (v := .string ⟨#[]⟩) rfl; have k1 := H13z.cell 2 rfl 1 (v := .string ⟨#[]⟩) rfl; have k2 := H13z.cell 2 rfl 2 (v := .bool false) rfl; have uk0 := H13z.unfrozen 2 rfl 0; have uk1 := H13z.unfrozen 2 rfl 1; have uk2 := H13z.unfrozen 2 rfl 2; have H13 := Hp.box_sets (i := 1) (p := 2) [.string y.f0, .string y.f1, .bool y.f2] 0 _ _ _ H13z rfl rfl; simp only [sets, Nat.zero_add, Nat.reduceAdd] at H13)
      | (go_at_call 45; refine (HT45.out A2 c2 _ (H13.reads 1 rfl) HC.out).mono ?_; rintro e w14 ⟨A14, c14, rfl, hb⟩; have H14 := H13.same hb; clear hb H13 H13z k0 k1 k2 uk0 uk1 uk2)
      | ((with_reducible refine gate_dst (N := 14) rfl ?_); refine Hp.at_box H14 2 ?hg (N := 14) ?hd (cs := #[.string ⟨#[]⟩, .string ⟨#[]⟩, .bool false]) (t := 33) ?hr ?_; (case hd => rfl); (case hg => rfl); (case hr => first | (go_simp; done) | (go_simp; rfl)); intro g14 vg14 H15z; clear H14; have k0 := H15z.cell 3 rfl 0 (v := .string ⟨#[]⟩) rfl; have k1 := H15z.cell 3 rfl 1 (v := .string ⟨#[]⟩) rfl; have k2 := H15z.cell 3 rfl 2 (v := .bool false) rfl; have uk0 := H15z.unfrozen 3 rfl 0; have uk1 := H15z.unfrozen 3 rfl 1; have uk2 := H15z.unfrozen 3 rfl 2; have H15 := Hp.box_sets (i := 2) (p := 3) [.string y.f0, .string y.f1, .bool y.f2] 0 _ _ _ H15z rfl rfl; simp only [sets, Nat.zero_add, Nat.reduceAdd] at H15; have r0 := H15.cell 2 rfl 0 (v := .string y.f0) rfl; have r1 := H15.cell 2 rfl 1 (v := .string y.f1) rfl; have r2 := H15.cell 2 rfl 2 (v := .bool y.f2) rfl; have t0 := H15.cell 3 rfl 0 (v := .string y.f0) rfl; have t1 := H15.cell 3 rfl 1 (v := .string y.f1) rfl; have t2 := H15.cell 3 rfl 2 (v := .bool y.f2) rfl))
    go_ret
    exact ⟨rfl, H15.below 0 rfl (fun _ h => h)⟩
set_option maxHeartbeats 16000000 in
set_option maxRecDepth 100000 in
theorem parts_go3 (a0 : Int) (x : S33) (A2 : Option Addr) (c2 : Nat) (b : List Int) (w : World)
    (hr : Kd.C U8 w A2 b.length b) (hc : b.length ≤ c2) (hb : Bytes b) (hl : b.length ≤ 140737488351232) (ha0 : 0 ≤ a0) (ha1 : a0 ≤ 4294967295) (he : wrE x = 0) (hfit : ahead a0 + (wB x).length ≤ 1048576) :
    Calls Try.prog 10 #[.int .u32 a0, .agg #[.string x.f0, .string x.f1, .bool x.f2], .slice A2 b.length c2] w fun e w' => e = .returned (.bool true) ∧ Below w.heap.size w w' := by
  have H0 := (Hp.start w).came (Kd.heap_int _) 0 rfl hr
  have hn := ahead_le ha0
  have hq1 := Int.emod_nonneg a0 (b := 1048577) (by decide)
  have hq2 := Int.emod_lt_of_pos a0 (b := 1048577) (by decide)
  have HN : Aside0 (ahead a0 ≤ 1048576) := ⟨hn⟩
  have HS : Aside0 ((((a0.tmod 7 != 0) = true ∧ (a0.tmod 7 == 0) = false) ∧ (a0.tmod 1048577).tmod 100 = (ahead a0 : Int)) ∨ (((a0.tmod 7 != 0) = false ∧ (a0.tmod 7 == 0) = true) ∧ a0.tmod 1048577 = (ahead a0 : Int))) := by
    constructor
    rw [Int.tmod_eq_emod_of_nonneg ha0, Int.tmod_eq_emod_of_nonneg ha0, Int.tmod_eq_emod_of_nonneg hq1]
    unfold ahead
    by_cases h7 : a0 % 7 = 0
    · rw [if_pos h7]
      exact .inr ⟨⟨by simp [h7], by simp [h7]⟩, by omega⟩
    · rw [if_neg h7]
      exact .inl ⟨⟨bne_iff_ne.mpr h7, beq_eq_false_iff_ne.mpr h7⟩, by omega⟩
  have HW1 : Aside0 (wrap64 (a0.tmod 1048577) = a0.tmod 1048577) := ⟨Cod.wr1 (x := a0.tmod 1048577) (by rw [Int.tmod_eq_emod_of_nonneg ha0]; omega) (by rw [Int.tmod_eq_emod_of_nonneg ha0]; omega)⟩
  generalize ahead a0 = n at hn HN HS hfit
  have HLB := Aside0.mk hl
  have HW2 : Aside0 (wrap64 (n : Int) = (n : Int)) := ⟨Cod.wr1 (by omega) (by omega)⟩
  obtain ⟨y, sz, et, m, hsz, hm, T44, T45⟩ := takeW_both hb hl
  have HT44 := Aside0.mk T44
  have HT45 := Aside0.mk T45
  have HSZ := Aside0.mk hsz
  have HM := Aside0.mk hm
  have HC := Aside0.mk hc
  have HCW := Aside0.mk (checkWriteR_eq x)
  obtain ⟨kp, hkp⟩ := (putW_ok he n hfit).rounds
  obtain ⟨kf, hkf⟩ := (refWrite_ev x (wr_sizes he).1 (wr_sizes he).2).rounds
  have hyl := wB_len (wr_sizes he).1 (wr_sizes he).2
  have heq := eq_bytes (v := true) (x := List.replicate n (0 : Int) ++ wB x) (y := List.replicate n 0 ++ wB x) (Bytes_app (by intro z hz; rw [List.eq_of_mem_replicate hz]; decide) (wB_bytes he)) (Bytes_app (by intro z hz; rw [List.eq_of_mem_replicate hz]; decide) (wB_bytes he)) (by simp)
  rw [he] at HCW
  generalize wB x = yb at hfit hkf hyl hkp heq
  obtain ⟨yt, hyt⟩ : ∃ q, List.replicate n (0 : Int) ++ yb = q := ⟨_, rfl⟩
  rw [hyt] at hkp heq
  have HYT := Aside0.mk hyt
  have HEQ := Aside0.mk heq
  have HKP := Aside0.mk hkp
  have HKF := Aside0.mk hkf
  have hww : wrap64 ((n : Int) + (yb.length : Int)) = ((n + yb.length : Nat) : Int) := by rw [Cod.wr1 (by omega) (by omega)]; omega
  have hgt : ¬ (1048576 : Int) < ((n + yb.length : Nat) : Int) := by omega
  have hgt2 : decide ((1048576 : Int) < ((n + yb.length : Nat) : Int)) = false := decide_eq_false hgt
  have HYL := Aside0.mk hyl
  clear hkp hkf he hfit hyl hyt heq
  have HPUT := Aside0.mk (fun A c W hv => putW_calls kp (fun _ => True) A c n x yt 0 W hv HKP.out)
  clear HKP
  clear hq1 hq2 hn T44 T45 hr hc hb hl ha0 ha1 hsz hm
  have hw1 := HW1.out
  rcases HS.out with ⟨⟨s1, s2⟩, hn1⟩ | ⟨⟨s1, s2⟩, hn1⟩
  · have HN1 := Aside0.mk hn1
    clear hn1
    go_enter Try.func10, Try.ntmps10
    go_upto_region 6 with (first
      | ((with_reducible refine gate_dst (N := 4) rfl ?_); refine Hp.at_box H0 1 ?hg (N := 4) ?hd (cs := #[.string x.f0, .string x.f1, .bool x.f2]) (t := 33) ?hr ?_; (case hd => rfl); (case hg => rfl); (case hr => first | (go_simp; done) | (go_simp; rfl)); intro g4 w1 H1; clear H0)
      | (go_at_call 17; refine (cressetlaw03_live.calls 0 true _ rfl).mono ?_; rintro e w2 ⟨rfl, hb⟩; have H2 := H1.same hb; clear hb H1))
    simp only [HN1.out, HW2.out]
    go_upto_region 11 with (first
      | ((with_reducible refine gate_dst (N := 28) rfl ?_); refine Hp.at_make U8 H2 2 5 ?hg (N := 28) ?hd 42 (.tmp 27) (.tmp 27) ?ho n ?hx ?hy Try.underlying42 (.int .u8 0) 1 info5 rfl (by decide) (by omega) 0 rfl (by have := HN.out; omega) ?_; (case hd => rfl); (case hg => rfl); (case ho => rfl); (case hx => rfl); (case hy => rfl); intro A8 c8 w3 hc8 H3'; have H3 : Hp w w3 [(0, Asn.old w (fun _ => False)), (0, Asn.rd U8 A2 b.length b), (1, Asn.box g4 #[.string x.f0, .string x.f1, .bool x.f2] 33), (2, Asn.row U8 5 (.slice A8 n c8) (List.replicate n 0))] := H3'; clear H3' H2; have HC8 := Aside0.mk hc8; clear hc8; have z0 := H3.cell 2 rfl 0 (v := .string x.f0) rfl; have z1 := H3.cell 2 rfl 1 (v := .string x.f1) rfl; have z2 := H3.cell 2 rfl 2 (v := .bool x.f2) rfl)
      | (go_at_call 12; refine (cressetref03_CheckWrite.calls x.f0 x.f1 x.f2 0 _ HCW.out).mono ?_; rintro e w4 ⟨rfl, hb⟩; clear z0 z1 z2; have H4 := H3.same hb; clear hb H3; have z0 := H4.cell 2 rfl 0 (v := .string x.f0) rfl; have z1 := H4.cell 2 rfl 1 (v := .string x.f1) rfl; have z2 := H4.cell 2 rfl 2 (v := .bool x.f2) rfl)
      | (go_at_call 42; refine (cressetref03_WriteForm.calls kf x.f0 x.f1 x.f2 yb _ HKF.out).mono ?_; rintro e w5 ⟨v5, rfl, hR, hb⟩; clear z0 z1 z2; have H5' := H4.made 3 hb hR; obtain ⟨A9, c9, rfl⟩ := Kd.R_slice hR; clear hR hb H4; have H5 : Hp w w5 [(0, Asn.old w (fun _ => False)), (0, Asn.rd U8 A2 b.length b), (1, Asn.box g4 #[.string x.f0, .string x.f1, .bool x.f2] 33), (2, Asn.row U8 5 (.slice A8 n c8) (List.replicate n 0)), (3, Asn.row U8 5 (.slice A9 yb.length c9) yb)] := H5'; clear H5'; have z0 := H5.cell 2 rfl 0 (v := .string x.f0) rfl; have z1 := H5.cell 2 rfl 1 (v := .string x.f1) rfl; have z2 := H5.cell 2 rfl 2 (v := .bool x.f2) rfl)
      | (go_at_call 43; refine (HPUT.out A8 c8 _ (H5.fact 3 rfl (fun S h => Kd.V_mono (Kd.R_V h) (fun _ _ => trivial)))).mono ?_; rintro e w6 ⟨v6, rfl, hR, hb⟩; clear z0 z1 z2; have H6' := H5.made 4 hb (Kd.R_mono hR (fun _ _ => trivial)); obtain ⟨A10, c10, rfl⟩ := Kd.R_slice hR; clear hR hb H5; have H6 : Hp w w6 [(0, Asn.old w (fun _ => False)), (0, Asn.rd U8 A2 b.length b), (1, Asn.box g4 #[.string x.f0, .string x.f1, .bool x.f2] 33), (2, Asn.row U8 5 (.slice A8 n c8) (List.replicate n 0)), (3, Asn.row U8 5 (.slice A9 yb.length c9) yb), (4, Asn.row U8 5 (.slice A10 yt.length c10) yt)] := H6'; clear H6'; have z0 := H6.cell 2 rfl 0 (v := .string x.f0) rfl; have z1 := H6.cell 2 rfl 1 (v := .string x.f1) rfl; have z2 := H6.cell 2 rfl 2 (v := .bool x.f2) rfl))
    have HD := H6.drew
    clear z0 z1 z2
    clear H6
    refine start_ (n := 26) (S := fun w' => w'.cell? ⟨g4, 0, none⟩ = some (.string x.f0) ∧ w'.cell? ⟨g4, 1, none⟩ = some (.string x.f1) ∧ w'.cell? ⟨g4, 2, none⟩ = some (.bool x.f2)) (ds := []) #[false, false, false, false, false, false, false, false, false, false, false, false, false, false, false, false, false, false, false, false, false, false, false, false, false, false] (by kernel_rfl) rfl rfl ⟨(HD.cell 2 rfl 0 (v := .string x.f0) rfl), (HD.cell 2 rfl 1 (v := .string x.f1) rfl), (HD.cell 2 rfl 2 (v := .bool x.f2) rfl)⟩ (fun hHeld => ?_); refine with_tabW paT.tab11 paT.bits11 (fun HT_ HW_ => ?_)
    refine pure_ (i := 0) (N := some 47) (v := ?_) (a' := ?_) #[true, false, false, false, false, false, false, false, false, false, false, false, false, false, false, false, false, false, false, false, false, false, false, false, false, false] rfl rfl (any_of HT_.out (by kernel_rfl)) (fun _ _ _ h => h) (Or.inl ⟨by rfl, ?_⟩) ?_ ?_
    rotate_left
    · intro w'
      go_simp
      with_reducible rfl
    rotate_left
    · simp only [Act.put, List.setIfInBounds_toArray, List.set_cons_zero, List.set_cons_succ, i64_w, i32_w]
      rfl
    refine pure_ (i := 1) (N := some 48) (v := ?_) (a' := ?_) #[true, true, false, false, false, false, false, false, false, false, false, false, false, false, false, false, false, false, false, false, false, false, false, false, false, false] rfl rfl (any_of HT_.out (by kernel_rfl)) (fun _ _ _ h => h) (Or.inl ⟨by rfl, ?_⟩) ?_ ?_
    rotate_left
    · intro w'
      go_simp
      with_reducible rfl
    rotate_left
    · simp only [Act.put, List.setIfInBounds_toArray, List.set_cons_zero, List.set_cons_succ, i64_w, i32_w]
      rfl
    refine pure_ (i := 2) (N := some 49) (v := ?_) (a' := ?_) #[true, true, true, false, false, false, false, false, false, false, false, false, false, false, false, false, false, false, false, false, false, false, false, false, false, false] rfl rfl (any_of HT_.out (by kernel_rfl)) (fun _ _ _ h => h) (Or.inl ⟨by rfl, ?_⟩) ?_ ?_
    rotate_left
    · intro w'
      go_simp
      with_reducible rfl
    rotate_left
    · simp only [Act.put, List.setIfInBounds_toArray, List.set_cons_zero, List.set_cons_succ, i64_w, i32_w]
      rfl
    refine pure_ (i := 3) (N := some 50) (v := ?_) (a' := ?_) #[true, true, true, true, false, false, false, false, false, false, false, false, false, false, false, false, false, false, false, false, false, false, false, false, false, false] rfl rfl (any_of HT_.out (by kernel_rfl)) (fun _ _ _ h => h) (Or.inl ⟨by rfl, ?_⟩) ?_ ?_
    rotate_left
    · intro w'
      go_simp
      with_reducible rfl
    rotate_left
    · simp only [Act.put, List.setIfInBounds_toArray, List.set_cons_zero, List.set_cons_succ, i64_w, i32_w]
      rfl
    refine pure_ (i := 4) (N := some 51) (v := ?_) (a' := ?_) #[true, true, true, true, true, false, false, false, false, false, false, false, false, false, false, false, false, false, false, false, false, false, false, false, false, false] rfl rfl (any_of HT_.out (by kernel_rfl)) (fun _ _ _ h => h) (Or.inl ⟨by rfl, ?_⟩) ?_ ?_
    rotate_left
    · intro w'
      go_simp
      with_reducible rfl
    rotate_left
    · simp only [Act.put, List.setIfInBounds_toArray, List.set_cons_zero, List.set_cons_succ, i64_w, i32_w]
      rfl
    refine pure_ (i := 5) (N := some 52) (v := ?_) (a' := ?_) #[true, true, true, true, true, true, false, false, false, false, false, false, false, false, false, false, false, false, false, false, false, false, false, false, false, false] rfl rfl (any_of HT_.out (by kernel_rfl)) (fun _ _ _ h => h) (Or.inl ⟨by rfl, ?_⟩) ?_ ?_
    rotate_left
    · intro w'
      go_simp
      with_reducible rfl
    rotate_left
    · simp only [Act.put, List.setIfInBounds_toArray, List.set_cons_zero, List.set_cons_succ, i64_w, i32_w]
      rfl
    refine pure_ (i := 6) (N := some 53) (v := ?_) (a' := ?_) #[true, true, true, true, true, true, true, false, false, false, false, false, false, false, false, false, false, false, false, false, false, false, false, false, false, false] rfl rfl (any_of HT_.out (by kernel_rfl)) (fun _ _ _ h => h) (Or.inl ⟨by rfl, ?_⟩) ?_ ?_
    rotate_left
    · intro w'
      go_simp
      with_reducible rfl
    rotate_left
    · simp only [Act.put, List.setIfInBounds_toArray, List.set_cons_zero, List.set_cons_succ, i64_w, i32_w]
      rfl
    refine pure_ (i := 7) (N := some 54) (v := undef) (a' := ?_) #[true, true, true, true, true, true, true, true, false, false, false, false, false, false, false, false, false, false, false, false, false, false, false, false, false, false] rfl rfl (any_of HT_.out (by kernel_rfl)) (fun _ _ _ h => h) (Or.inr ⟨by rfl, rfl⟩) ?_ ?_
    rotate_left
    · simp only [Act.put, List.setIfInBounds_toArray, List.set_cons_zero, List.set_cons_succ, i64_w, i32_w]
      rfl
    refine pure_ (i := 8) (N := some 55) (v := undef) (a' := ?_) #[true, true, true, true, true, true, true, true, true, false, false, false, false, false, false, false, false, false, false, false, false, false, false, false, false, false] rfl rfl (any_of HT_.out (by kernel_rfl)) (fun _ _ _ h => h) (Or.inr ⟨by rfl, rfl⟩) ?_ ?_
    rotate_left
    · simp only [Act.put, List.setIfInBounds_toArray, List.set_cons_zero, List.set_cons_succ, i64_w, i32_w]
      rfl
    refine pure_ (i := 9) (N := some 56) (v := undef) (a' := ?_) #[true, true, true, true, true, true, true, true, true, true, false, false, false, false, false, false, false, false, false, false, false, false, false, false, false, false] rfl rfl (any_of HT_.out (by kernel_rfl)) (fun _ _ _ h => h) (Or.inr ⟨by rfl, rfl⟩) ?_ ?_
    rotate_left
    · simp only [Act.put, List.setIfInBounds_toArray, List.set_cons_zero, List.set_cons_succ, i64_w, i32_w]
      rfl
    refine pure_ (i := 10) (N := some 57) (v := ?_) (a' := ?_) #[true, true, true, true, true, true, true, true, true, true, true, false, false, false, false, false, false, false, false, false, false, false, false, false, false, false] rfl rfl (any_of HT_.out (by kernel_rfl)) (fun _ _ _ h => h) (Or.inl ⟨by rfl, ?_⟩) ?_ ?_
    rotate_left
    · intro w'
      go_simp
      with_reducible rfl
    rotate_left
    · simp only [Act.put, List.setIfInBounds_toArray, List.set_cons_zero, List.set_cons_succ, i64_w, i32_w]
      rfl
    refine pure_ (i := 11) (N := some 58) (v := ?_) (a' := ?_) #[true, true, true, true, true, true, true, true, true, true, true, true, false, false, false, false, false, false, false, false, false, false, false, false, false, false] rfl rfl (any_of HT_.out (by kernel_rfl)) (fun _ _ _ h => h) (Or.inl ⟨by rfl, ?_⟩) ?_ ?_
    rotate_left
    · intro w'
      go_simp
      with_reducible rfl
    rotate_left
    · simp only [Act.put, List.setIfInBounds_toArray, List.set_cons_zero, List.set_cons_succ, i64_w, i32_w]
      rfl
    refine pure_ (i := 12) (N := some 59) (v := ?_) (a' := ?_) #[true, true, true, true, true, true, true, true, true, true, true, true, true, false, false, false, false, false, false, false, false, false, false, false, false, false] rfl rfl (any_of HT_.out (by kernel_rfl)) (fun _ _ _ h => h) (Or.inl ⟨by rfl, ?_⟩) ?_ ?_
    rotate_left
    · intro w'
      go_simp
      with_reducible rfl
    rotate_left
    · simp only [Act.put, List.setIfInBounds_toArray, List.set_cons_zero, List.set_cons_succ, i64_w, i32_w]
      rfl
    refine pure_ (i := 13) (N := some 60) (v := ?_) (a' := ?_) #[true, true, true, true, true, true, true, true, true, true, true, true, true, true, false, false, false, false, false, false, false, false, false, false, false, false] rfl rfl (any_of HT_.out (by kernel_rfl)) (fun _ _ _ h => h) (Or.inl ⟨by rfl, ?_⟩) ?_ ?_
    rotate_left
    · intro w'
      go_simp
      with_reducible rfl
    rotate_left
    · simp only [Act.put, List.setIfInBounds_toArray, List.set_cons_zero, List.set_cons_succ, i64_w, i32_w]
      rfl
    refine pure_ (i := 14) (N := some 61) (v := ?_) (a' := ?_) #[true, true, true, true, true, true, true, true, true, true, true, true, true, true, true, false, false, false, false, false, false, false, false, false, false, false] rfl rfl (any_of HT_.out (by kernel_rfl)) (fun _ _ _ h => h) (Or.inl ⟨by rfl, ?_⟩) ?_ ?_
    rotate_left
    · intro w'
      go_simp
      with_reducible rfl
    rotate_left
    · simp only [Act.put, List.setIfInBounds_toArray, List.set_cons_zero, List.set_cons_succ, i64_w, i32_w]
      rfl
    refine pure_ (i := 15) (N := some 62) (v := ?_) (a' := ?_) #[true, true, true, true, true, true, true, true, true, true, true, true, true, true, true, true, false, false, false, false, false, false, false, false, false, false] rfl rfl (any_of HT_.out (by kernel_rfl)) (fun _ _ _ h => h) (Or.inl ⟨by rfl, ?_⟩) ?_ ?_
    rotate_left
    · intro w'
      go_simp
      with_reducible rfl
    rotate_left
    · simp only [Act.put, List.setIfInBounds_toArray, List.set_cons_zero, List.set_cons_succ, i64_w, i32_w]
      rfl
    refine pure_ (i := 16) (N := some 63) (v := ?_) (a' := ?_) #[true, true, true, true, true, true, true, true, true, true, true, true, true, true, true, true, true, false, false, false, false, false, false, false, false, false] rfl rfl (any_of HT_.out (by kernel_rfl)) (fun _ _ _ h => h) (Or.inl ⟨by rfl, ?_⟩) ?_ ?_
    rotate_left
    · intro w'
      go_simp
      with_reducible rfl
    rotate_left
    · simp only [Act.put, List.setIfInBounds_toArray, List.set_cons_zero, List.set_cons_succ, i64_w, i32_w]
      rfl
    refine pure_ (i := 17) (N := some 64) (v := ?_) (a' := ?_) #[true, true, true, true, true, true, true, true, true, true, true, true, true, true, true, true, true, true, false, false, false, false, false, false, false, false] rfl rfl (any_of HT_.out (by kernel_rfl)) (fun _ _ _ h => h) (Or.inl ⟨by rfl, ?_⟩) ?_ ?_
    rotate_left
    · intro w'
      go_simp
      with_reducible rfl
    rotate_left
    · simp only [Act.put, List.setIfInBounds_toArray, List.set_cons_zero, List.set_cons_succ, i64_w, i32_w]
      rfl
    refine take_ (i := 19) (N := some 66) (v := ?_) (a' := ?_) #[true, true, true, true, true, true, true, true, true, true, true, true, true, true, true, true, true, true, false, true, false, false, false, false, false, false] rfl rfl (take_ofW HT_.out HW_.out (by kernel_rfl)) (fun _ _ _ h => h) (Or.inl ⟨by rfl, ?_⟩) hHeld ?_ ?_
    rotate_left
    · rintro w' ⟨s0, s1, s2⟩
      go_simp
      with_reducible rfl
    rotate_left
    · simp only [Act.put, List.setIfInBounds_toArray, List.set_cons_zero, List.set_cons_succ, i64_w, i32_w]
      rfl
    refine one_ (i := 18) (N := some 65) #[true, true, true, true, true, true, true, true, true, true, true, true, true, true, true, true, true, true, true, true, false, false, false, false, false, false] rfl rfl (one_of HT_.out (by kernel_rfl)) (by decide) (fun Kx_ hKx_ => ?_)
    refine goes_ Try.func37 (by kernel_rfl) rfl #[.slice A8 n c8] (by rfl) rfl rfl (by (try simp only [List.map_toArray, List.map_cons, List.map_nil]); first | done | rfl) ?_
    refine (clone_rep A8 c8 n _ HN.out (HD.fact 3 rfl (fun S h => by have h2 := Kd.R_reads' h; rw [List.length_replicate] at h2; exact h2.2.2)) HC8.out).mono ?_
    rintro e w7 ⟨v7, rfl, hR, hb⟩
    have H7' := HD.made 5 hb hR
    obtain ⟨A11, c11, hv7⟩ := Kd.R_slice hR
    rw [List.length_replicate] at hv7
    subst hv7
    clear hR hb
    have H7 : Hp w w7 [(0, Asn.old w (fun _ => False)), (0, Asn.rd U8 A2 b.length b), (1, Asn.box g4 #[.string x.f0, .string x.f1, .bool x.f2] 33), (2, Asn.row U8 5 (.slice A8 n c8) (List.replicate n 0)), (3, Asn.row U8 5 (.slice A9 yb.length c9) yb), (4, Asn.row U8 5 (.slice A10 yt.length c10) yt), (5, Asn.row U8 5 (.slice A11 n c11) (List.replicate n 0))] := H7'
    clear H7'
    refine ⟨_, rfl, ?_⟩
    refine hKx_.out _ _ ⟨(H7.cell 2 rfl 0 (v := .string x.f0) rfl), (H7.cell 2 rfl 1 (v := .string x.f1) rfl), (H7.cell 2 rfl 2 (v := .bool x.f2) rfl)⟩ (fun hHeld => ?_)
    clear hKx_ Kx_
    refine norm_ (a' := ?_) ?_ ?_
    rotate_left
    · show Act.put _ (some 65) _ = _
      simp only [Act.put, List.setIfInBounds_toArray, List.set_cons_zero, List.set_cons_succ, i64_w, i32_w]
      rfl
    refine one_ (i := 20) (N := some 67) #[true, true, true, true, true, true, true, true, true, true, true, true, true, true, true, true, true, true, true, true, true, false, false, false, false, false] rfl rfl (one_of HT_.out (by kernel_rfl)) (by decide) (fun Kx_ hKx_ => ?_)
    refine goes_ Try.func42 (by kernel_rfl) rfl #[.agg #[.string x.f0, .string x.f1, .bool x.f2]] (by rfl) rfl rfl (by (try simp only [List.map_toArray, List.map_cons, List.map_nil]); first | done | rfl) ?_
    refine (cressetref03_WriteForm.calls kf x.f0 x.f1 x.f2 yb _ HKF.out).mono ?_
    rintro e w8 ⟨v8, rfl, hR, hb⟩
    have H8' := H7.made 6 hb hR
    obtain ⟨A12, c12, rfl⟩ := Kd.R_slice hR
    clear hR hb
    have H8 : Hp w w8 [(0, Asn.old w (fun _ => False)), (0, Asn.rd U8 A2 b.length b), (1, Asn.box g4 #[.string x.f0, .string x.f1, .bool x.f2] 33), (2, Asn.row U8 5 (.slice A8 n c8) (List.replicate n 0)), (3, Asn.row U8 5 (.slice A9 yb.length c9) yb), (4, Asn.row U8 5 (.slice A10 yt.length c10) yt), (5, Asn.row U8 5 (.slice A11 n c11) (List.replicate n 0)), (6, Asn.row U8 5 (.slice A12 yb.length c12) yb)] := H8'
    clear H8'
    refine ⟨_, rfl, ?_⟩
    refine hKx_.out _ _ ⟨(H8.cell 2 rfl 0 (v := .string x.f0) rfl), (H8.cell 2 rfl 1 (v := .string x.f1) rfl), (H8.cell 2 rfl 2 (v := .bool x.f2) rfl)⟩ (fun hHeld => ?_)
    clear hKx_ Kx_
    refine norm_ (a' := ?_) ?_ ?_
    rotate_left
    · show Act.put _ (some 67) _ = _
      simp only [Act.put, List.setIfInBounds_toArray, List.set_cons_zero, List.set_cons_succ, i64_w, i32_w]
      rfl
    refine one_ (i := 21) (N := some 68) #[true, true, true, true, true, true, true, true, true, true, true, true, true, true, true, true, true, true, true, true, true, true, false, false, false, false] rfl rfl (one_of HT_.out (by kernel_rfl)) (by decide) (fun Kx_ hKx_ => ?_)
    refine step_append_rows U8 H8 6 rfl (.tmp 65) (.tmp 67) 42 5 (.int .u8 0) 1 rfl Try.underlying42 info5 rfl (by decide) (by omega) (.slice A11 n c11) (List.replicate n 0) yb A12 yb.length c12 rfl rfl rfl rfl (H8.row_C 7 rfl).2.2 (fun x cs h => h) (by have := HYL.out; have := HN.out; rw [List.length_replicate]; omega) ?_
    intro v9 w9 H9'
    rw [HYT.out] at H9'
    obtain ⟨A13, c13, rfl⟩ := H9'.fact 6 rfl (fun S h => Kd.R_slice h)
    have H9 : Hp w w9 [(0, Asn.old w (fun _ => False)), (0, Asn.rd U8 A2 b.length b), (1, Asn.box g4 #[.string x.f0, .string x.f1, .bool x.f2] 33), (2, Asn.row U8 5 (.slice A8 n c8) (List.replicate n 0)), (3, Asn.row U8 5 (.slice A9 yb.length c9) yb), (4, Asn.row U8 5 (.slice A10 yt.length c10) yt), (5, Asn.row U8 5 (.slice A13 yt.length c13) yt), (6, Asn.row U8 5 (.slice A12 yb.length c12) yb)] := H9'
    clear H9'
    refine hKx_.out _ _ ⟨(H9.cell 2 rfl 0 (v := .string x.f0) rfl), (H9.cell 2 rfl 1 (v := .string x.f1) rfl), (H9.cell 2 rfl 2 (v := .bool x.f2) rfl)⟩ (fun hHeld => ?_)
    clear hKx_ Kx_
    refine norm_ (a' := ?_) ?_ ?_
    rotate_left
    · show Act.put _ (some 68) _ = _
      simp only [Act.put, List.setIfInBounds_toArray, List.set_cons_zero, List.set_cons_succ, i64_w, i32_w]
      rfl
    refine one_ (i := 22) (N := some 69) #[true, true, true, true, true, true, true, true, true, true, true, true, true, true, true, true, true, true, true, true, true, true, true, false, false, false] rfl rfl (one_of HT_.out (by kernel_rfl)) (by decide) (fun Kx_ hKx_ => ?_)
    refine goes_ Try.func30 (by kernel_rfl) rfl #[.slice A10 yt.length c10, .slice A13 yt.length c13] (by rfl) rfl rfl (by (try simp only [List.map_toArray, List.map_cons, List.map_nil]); first | done | rfl) ?_
    refine (bytes_Equal.calls A10 c10 yt A13 c13 yt true _ (H9.row_C 5 rfl).2.2 (H9.row_C 5 rfl).2.1 (H9.row_C 6 rfl).2.2 (H9.row_C 6 rfl).2.1 HEQ.out).mono ?_
    rintro e w10 ⟨rfl, ⟨nd, rfl⟩⟩
    have H10 := H9.drewN nd
    refine ⟨_, rfl, ?_⟩
    refine hKx_.out _ _ ⟨(H10.cell 2 rfl 0 (v := .string x.f0) rfl), (H10.cell 2 rfl 1 (v := .string x.f1) rfl), (H10.cell 2 rfl 2 (v := .bool x.f2) rfl)⟩ (fun hHeld => ?_)
    clear hKx_ Kx_
    refine norm_ (a' := ?_) ?_ ?_
    rotate_left
    · show Act.put _ (some 69) _ = _
      simp only [Act.put, List.setIfInBounds_toArray, List.set_cons_zero, List.set_cons_succ, i64_w, i32_w]
      rfl
    refine pure_ (i := 23) (N := some 70) (v := ?_) (a' := ?_) #[true, true, true, true, true, true, true, true, true, true, true, true, true, true, true, true, true, true, true, true, true, true, true, true, false, false] rfl rfl (any_of HT_.out (by kernel_rfl)) (fun _ _ _ h => h) (Or.inl ⟨by rfl, ?_⟩) ?_ ?_
    rotate_left
    · intro w'
      go_simp
      with_reducible rfl
    rotate_left
    · simp only [Act.put, List.setIfInBounds_toArray, List.set_cons_zero, List.set_cons_succ, i64_w, i32_w]
      rfl
    refine pure_ (i := 24) (N := some 71) (v := ?_) (a' := ?_) #[true, true, true, true, true, true, true, true, true, true, true, true, true, true, true, true, true, true, true, true, true, true, true, true, true, false] rfl rfl (any_of HT_.out (by kernel_rfl)) (fun _ _ _ h => h) (Or.inl ⟨by rfl, ?_⟩) ?_ ?_
    rotate_left
    · intro w'
      go_simp
      with_reducible rfl
    rotate_left
    · simp only [Act.put, List.setIfInBounds_toArray, List.set_cons_zero, List.set_cons_succ, i64_w, i32_w]
      rfl
    refine pure_ (i := 25) (N := some 72) (v := ?_) (a' := ?_) #[true, true, true, true, true, true, true, true, true, true, true, true, true, true, true, true, true, true, true, true, true, true, true, true, true, true] rfl rfl (any_of HT_.out (by kernel_rfl)) (fun _ _ _ h => h) (Or.inl ⟨by rfl, ?_⟩) ?_ ?_
    rotate_left
    · intro w'
      go_simp
      with_reducible rfl
    rotate_left
    · simp only [Act.put, List.setIfInBounds_toArray, List.set_cons_zero, List.set_cons_succ, i64_w, i32_w]
      rfl
    refine done_ (done_of HT_.out (by kernel_rfl)) ?_
    clear HT_ HW_ hHeld
    have H11 : Hp w _ [(0, Asn.old w (fun _ => False)), (0, Asn.rd U8 A2 b.length b)] := H10.keep [0, 1]
    clear H10
    have hsub : wrap64 ((b.length : Int) - (m : Int)) = sz := by rw [HSZ.out]; exact Cod.wr1 (by have := HM.out; omega) (by have := HLB.out; omega)
    go_wp2_with (first
      | (go_at_call 44; refine (HT44.out A2 c2 _ (H11.reads 1 rfl) HC.out).mono ?_; rintro e w12 ⟨rfl, hb⟩; have H12 := H11.same hb; clear hb H11)
      | ((with_reducible refine gate_dst (N := 12) rfl ?_); refine Hp.at_box H12 1 ?hg (N := 12) ?hd (cs := #[.string ⟨#[]⟩, .string ⟨#[]⟩, .bool false]) (t := 33) ?hr ?_; (case hd => rfl); (case hg => rfl); (case hr => first | (go_simp; done) | (go_simp; rfl)); intro g12 vg12 H13z; clear H12; have k0 := H13z.cell 2 rfl 0 (v := .string ⟨#[]⟩) rfl; have k1 := H13z.cell 2 rfl 1 (v := .string ⟨#[]⟩) rfl; have k2 := H13z.cell 2 rfl 2 (v := .bool false) rfl; have uk0 := H13z.unfrozen 2 rfl 0; have uk1 := H13z.unfrozen 2 rfl 1; have uk2 := H13z.unfrozen 2 rfl 2; have H13 := Hp.box_sets (i := 1) (p := 2) [.string y.f0, .string y.f1, .bool y.f2] 0 _ _ _ H13z rfl rfl; simp only [sets, Nat.zero_add, Nat.reduceAdd] at H13)
      | (go_at_call 45; refine (HT45.out A2 c2 _ (H13.reads 1 rfl) HC.out).mono ?_; rintro e w14 ⟨A14, c14, rfl, hb⟩; have H14 := H13.same hb; clear hb H13 H13z k0 k1 k2 uk0 uk1 uk2)
      | ((with_reducible refine gate_dst (N := 14) rfl ?_); refine Hp.at_box H14 2 ?hg (N := 14) ?hd (cs := #[.string ⟨#[]⟩, .string ⟨#[]⟩, .bool false]) (t := 33) ?hr ?_; (case hd => rfl); (case hg => rfl); (case hr => first | (go_simp; done) | (go_simp; rfl)); intro g14 vg14 H15z; clear H14; have k0 := H15z.cell 3 rfl 0 (v := .string ⟨#[]⟩) rfl; have k1 := H15z.cell 3 rfl 1 (v := .string ⟨#[]⟩) rfl; have k2 := H15z.cell 3 rfl 2 (v := .bool false) rfl; have uk0 := H15z.unfrozen 3 rfl 0; have uk1 := H15z.unfrozen 3 rfl 1; have uk2 := H15z.unfrozen 3 rfl 2; have H15 := Hp.box_sets (i := 2) (p := 3) [.string y.f0, .string y.f1, .bool y.f2] 0 _ _ _ H15z rfl rfl; simp only [sets, Nat.zero_add, Nat.reduceAdd] at H15; have r0 := H15.cell 2 rfl 0 (v := .string y.f0) rfl; have r1 := H15.cell 2 rfl 1 (v := .string y.f1) rfl; have r2 := H15.cell 2 rfl 2 (v := .bool y.f2) rfl; have t0 := H15.cell 3 rfl 0 (v := .string y.f0) rfl; have t1 := H15.cell 3 rfl 1 (v := .string y.f1) rfl; have t2 := H15.cell 3 rfl 2 (v := .bool y.f2) rfl))
    go_ret
    exact ⟨rfl, H15.below 0 rfl (fun _ h => h)⟩
  · have HN1 := Aside0.mk hn1
    clear hn1
    go_enter Try.func10, Try.ntmps10
    go_upto_region 6 with (first
      | ((with_reducible refine gate_dst (N := 4) rfl ?_); refine Hp.at_box H0 1 ?hg (N := 4) ?hd (cs := #[.string x.f0, .string x.f1, .bool x.f2]) (t := 33) ?hr ?_; (case hd => rfl); (case hg => rfl); (case hr => first | (go_simp; done) | (go_simp; rfl)); intro g4 w1 H1; clear H0)
      | (go_at_call 17; refine (cressetlaw03_live.calls 0 true _ rfl).mono ?_; rintro e w2 ⟨rfl, hb⟩; have H2 := H1.same hb; clear hb H1))
    simp only [HN1.out, HW2.out]
    go_upto_region 11 with (first
      | ((with_reducible refine gate_dst (N := 28) rfl ?_); refine Hp.at_make U8 H2 2 5 ?hg (N := 28) ?hd 42 (.tmp 27) (.tmp 27) ?ho n ?hx ?hy Try.underlying42 (.int .u8 0) 1 info5 rfl (by decide) (by omega) 0 rfl (by have := HN.out; omega) ?_; (case hd => rfl); (case hg => rfl); (case ho => rfl); (case hx => rfl); (case hy => rfl); intro A8 c8 w3 hc8 H3'; have H3 : Hp w w3 [(0, Asn.old w (fun _ => False)), (0, Asn.rd U8 A2 b.length b), (1, Asn.box g4 #[.string x.f0, .string x.f1, .bool x.f2] 33), (2, Asn.row U8 5 (.slice A8 n c8) (List.replicate n 0))] := H3'; clear H3' H2; have HC8 := Aside0.mk hc8; clear hc8; have z0 := H3.cell 2 rfl 0 (v := .string x.f0) rfl; have z1 := H3.cell 2 rfl 1 (v := .string x.f1) rfl; have z2 := H3.cell 2 rfl 2 (v := .bool x.f2) rfl)
      | (go_at_call 12; refine (cressetref03_CheckWrite.calls x.f0 x.f1 x.f2 0 _ HCW.out).mono ?_; rintro e w4 ⟨rfl, hb⟩; clear z0 z1 z2; have H4 := H3.same hb; clear hb H3; have z0 := H4.cell 2 rfl 0 (v := .string x.f0) rfl; have z1 := H4.cell 2 rfl 1 (v := .string x.f1) rfl; have z2 := H4.cell 2 rfl 2 (v := .bool x.f2) rfl)
      | (go_at_call 42; refine (cressetref03_WriteForm.calls kf x.f0 x.f1 x.f2 yb _ HKF.out).mono ?_; rintro e w5 ⟨v5, rfl, hR, hb⟩; clear z0 z1 z2; have H5' := H4.made 3 hb hR; obtain ⟨A9, c9, rfl⟩ := Kd.R_slice hR; clear hR hb H4; have H5 : Hp w w5 [(0, Asn.old w (fun _ => False)), (0, Asn.rd U8 A2 b.length b), (1, Asn.box g4 #[.string x.f0, .string x.f1, .bool x.f2] 33), (2, Asn.row U8 5 (.slice A8 n c8) (List.replicate n 0)), (3, Asn.row U8 5 (.slice A9 yb.length c9) yb)] := H5'; clear H5'; have z0 := H5.cell 2 rfl 0 (v := .string x.f0) rfl; have z1 := H5.cell 2 rfl 1 (v := .string x.f1) rfl; have z2 := H5.cell 2 rfl 2 (v := .bool x.f2) rfl)
      | (go_at_call 43; refine (HPUT.out A8 c8 _ (H5.fact 3 rfl (fun S h => Kd.V_mono (Kd.R_V h) (fun _ _ => trivial)))).mono ?_; rintro e w6 ⟨v6, rfl, hR, hb⟩; clear z0 z1 z2; have H6' := H5.made 4 hb (Kd.R_mono hR (fun _ _ => trivial)); obtain ⟨A10, c10, rfl⟩ := Kd.R_slice hR; clear hR hb H5; have H6 : Hp w w6 [(0, Asn.old w (fun _ => False)), (0, Asn.rd U8 A2 b.length b), (1, Asn.box g4 #[.string x.f0, .string x.f1, .bool x.f2] 33), (2, Asn.row U8 5 (.slice A8 n c8) (List.replicate n 0)), (3, Asn.row U8 5 (.slice A9 yb.length c9) yb), (4, Asn.row U8 5 (.slice A10 yt.length c10) yt)] := H6'; clear H6'; have z0 := H6.cell 2 rfl 0 (v := .string x.f0) rfl; have z1 := H6.cell 2 rfl 1 (v := .string x.f1) rfl; have z2 := H6.cell 2 rfl 2 (v := .bool x.f2) rfl))
    have HD := H6.drew
    clear z0 z1 z2
    clear H6
    refine start_ (n := 26) (S := fun w' => w'.cell? ⟨g4, 0, none⟩ = some (.string x.f0) ∧ w'.cell? ⟨g4, 1, none⟩ = some (.string x.f1) ∧ w'.cell? ⟨g4, 2, none⟩ = some (.bool x.f2)) (ds := []) #[false, false, false, false, false, false, false, false, false, false, false, false, false, false, false, false, false, false, false, false, false, false, false, false, false, false] (by kernel_rfl) rfl rfl ⟨(HD.cell 2 rfl 0 (v := .string x.f0) rfl), (HD.cell 2 rfl 1 (v := .string x.f1) rfl), (HD.cell 2 rfl 2 (v := .bool x.f2) rfl)⟩ (fun hHeld => ?_); refine with_tabW paT.tab11 paT.bits11 (fun HT_ HW_ => ?_)
    refine pure_ (i := 0) (N := some 47) (v := ?_) (a' := ?_) #[true, false, false, false, false, false, false, false, false, false, false, false, false, false, false, false, false, false, false, false, false, false, false, false, false, false] rfl rfl (any_of HT_.out (by kernel_rfl)) (fun _ _ _ h => h) (Or.inl ⟨by rfl, ?_⟩) ?_ ?_
    rotate_left
    · intro w'
      go_simp
      with_reducible rfl
    rotate_left
    · simp only [Act.put, List.setIfInBounds_toArray, List.set_cons_zero, List.set_cons_succ, i64_w, i32_w]
      rfl
    refine pure_ (i := 1) (N := some 48) (v := ?_) (a' := ?_) #[true, true, false, false, false, false, false, false, false, false, false, false, false, false, false, false, false, false, false, false, false, false, false, false, false, false] rfl rfl (any_of HT_.out (by kernel_rfl)) (fun _ _ _ h => h) (Or.inl ⟨by rfl, ?_⟩) ?_ ?_
    rotate_left
    · intro w'
      go_simp
      with_reducible rfl
    rotate_left
    · simp only [Act.put, List.setIfInBounds_toArray, List.set_cons_zero, List.set_cons_succ, i64_w, i32_w]
      rfl
    refine pure_ (i := 2) (N := some 49) (v := ?_) (a' := ?_) #[true, true, true, false, false, false, false, false, false, false, false, false, false, false, false, false, false, false, false, false, false, false, false, false, false, false] rfl rfl (any_of HT_.out (by kernel_rfl)) (fun _ _ _ h => h) (Or.inl ⟨by rfl, ?_⟩) ?_ ?_
    rotate_left
    · intro w'
      go_simp
      with_reducible rfl
    rotate_left
    · simp only [Act.put, List.setIfInBounds_toArray, List.set_cons_zero, List.set_cons_succ, i64_w, i32_w]
      rfl
    refine pure_ (i := 3) (N := some 50) (v := ?_) (a' := ?_) #[true, true, true, true, false, false, false, false, false, false, false, false, false, false, false, false, false, false, false, false, false, false, false, false, false, false] rfl rfl (any_of HT_.out (by kernel_rfl)) (fun _ _ _ h => h) (Or.inl ⟨by rfl, ?_⟩) ?_ ?_
    rotate_left
    · intro w'
      go_simp
      with_reducible rfl
    rotate_left
    · simp only [Act.put, List.setIfInBounds_toArray, List.set_cons_zero, List.set_cons_succ, i64_w, i32_w]
      rfl
    refine pure_ (i := 4) (N := some 51) (v := ?_) (a' := ?_) #[true, true, true, true, true, false, false, false, false, false, false, false, false, false, false, false, false, false, false, false, false, false, false, false, false, false] rfl rfl (any_of HT_.out (by kernel_rfl)) (fun _ _ _ h => h) (Or.inl ⟨by rfl, ?_⟩) ?_ ?_
    rotate_left
    · intro w'
      go_simp
      with_reducible rfl
    rotate_left
    · simp only [Act.put, List.setIfInBounds_toArray, List.set_cons_zero, List.set_cons_succ, i64_w, i32_w]
      rfl
    refine pure_ (i := 5) (N := some 52) (v := ?_) (a' := ?_) #[true, true, true, true, true, true, false, false, false, false, false, false, false, false, false, false, false, false, false, false, false, false, false, false, false, false] rfl rfl (any_of HT_.out (by kernel_rfl)) (fun _ _ _ h => h) (Or.inl ⟨by rfl, ?_⟩) ?_ ?_
    rotate_left
    · intro w'
      go_simp
      with_reducible rfl
    rotate_left
    · simp only [Act.put, List.setIfInBounds_toArray, List.set_cons_zero, List.set_cons_succ, i64_w, i32_w]
      rfl
    refine pure_ (i := 6) (N := some 53) (v := ?_) (a' := ?_) #[true, true, true, true, true, true, true, false, false, false, false, false, false, false, false, false, false, false, false, false, false, false, false, false, false, false] rfl rfl (any_of HT_.out (by kernel_rfl)) (fun _ _ _ h => h) (Or.inl ⟨by rfl, ?_⟩) ?_ ?_
    rotate_left
    · intro w'
      go_simp
      with_reducible rfl
    rotate_left
    · simp only [Act.put, List.setIfInBounds_toArray, List.set_cons_zero, List.set_cons_succ, i64_w, i32_w]
      rfl
    refine pure_ (i := 7) (N := some 54) (v := undef) (a' := ?_) #[true, true, true, true, true, true, true, true, false, false, false, false, false, false, false, false, false, false, false, false, false, false, false, false, false, false] rfl rfl (any_of HT_.out (by kernel_rfl)) (fun _ _ _ h => h) (Or.inr ⟨by rfl, rfl⟩) ?_ ?_
    rotate_left
    · simp only [Act.put, List.setIfInBounds_toArray, List.set_cons_zero, List.set_cons_succ, i64_w, i32_w]
      rfl
    refine pure_ (i := 8) (N := some 55) (v := undef) (a' := ?_) #[true, true, true, true, true, true, true, true, true, false, false, false, false, false, false, false, false, false, false, false, false, false, false, false, false, false] rfl rfl (any_of HT_.out (by kernel_rfl)) (fun _ _ _ h => h) (Or.inr ⟨by rfl, rfl⟩) ?_ ?_
    rotate_left
    · simp only [Act.put, List.setIfInBounds_toArray, List.set_cons_zero, List.set_cons_succ, i64_w, i32_w]
      rfl
    refine pure_ (i := 9) (N := some 56) (v := undef) (a' := ?_) #[true, true, true, true, true, true, true, true, true, true, false, false, false, false, false, false, false, false, false, false, false, false, false, false, false, false] rfl rfl (any_of HT_.out (by kernel_rfl)) (fun _ _ _ h => h) (Or.inr ⟨by rfl, rfl⟩) ?_ ?_
    rotate_left
    · simp only [Act.put, List.setIfInBounds_toArray, List.set_cons_zero, List.set_cons_succ, i64_w, i32_w]
      rfl
    refine pure_ (i := 10) (N := some 57) (v := ?_) (a' := ?_) #[true, true, true, true, true, true, true, true, true, true, true, false, false, false, false, false, false, false, false, false, false, false, false, false, false, false] rfl rfl (any_of HT_.out (by kernel_rfl)) (fun _ _ _ h => h) (Or.inl ⟨by rfl, ?_⟩) ?_ ?_
    rotate_left
    · intro w'
      go_simp
      with_reducible rfl
    rotate_left
    · simp only [Act.put, List.setIfInBounds_toArray, List.set_cons_zero, List.set_cons_succ, i64_w, i32_w]
      rfl
    refine pure_ (i := 11) (N := some 58) (v := ?_) (a' := ?_) #[true, true, true, true, true, true, true, true, true, true, true, true, false, false, false, false, false, false, false, false, false, false, false, false, false, false] rfl rfl (any_of HT_.out (by kernel_rfl)) (fun _ _ _ h => h) (Or.inl ⟨by rfl, ?_⟩) ?_ ?_
    rotate_left
    · intro w'
      go_simp
      with_reducible rfl
    rotate_left
    · simp only [Act.put, List.setIfInBounds_toArray, List.set_cons_zero, List.set_cons_succ, i64_w, i32_w]
      rfl
    refine pure_ (i := 12) (N := some 59) (v := ?_) (a' := ?_) #[true, true, true, true, true, true, true, true, true, true, true, true, true, false, false, false, false, false, false, false, false, false, false, false, false, false] rfl rfl (any_of HT_.out (by kernel_rfl)) (fun _ _ _ h => h) (Or.inl ⟨by rfl, ?_⟩) ?_ ?_
    rotate_left
    · intro w'
      go_simp
      with_reducible rfl
    rotate_left
    · simp only [Act.put, List.setIfInBounds_toArray, List.set_cons_zero, List.set_cons_succ, i64_w, i32_w]
      rfl
    refine pure_ (i := 13) (N := some 60) (v := ?_) (a' := ?_) #[true, true, true, true, true, true, true, true, true, true, true, true, true, true, false, false, false, false, false, false, false, false, false, false, false, false] rfl rfl (any_of HT_.out (by kernel_rfl)) (fun _ _ _ h => h) (Or.inl ⟨by rfl, ?_⟩) ?_ ?_
    rotate_left
    · intro w'
      go_simp
      with_reducible rfl
    rotate_left
    · simp only [Act.put, List.setIfInBounds_toArray, List.set_cons_zero, List.set_cons_succ, i64_w, i32_w]
      rfl
    refine pure_ (i := 14) (N := some 61) (v := ?_) (a' := ?_) #[true, true, true, true, true, true, true, true, true, true, true, true, true, true, true, false, false, false, false, false, false, false, false, false, false, false] rfl rfl (any_of HT_.out (by kernel_rfl)) (fun _ _ _ h => h) (Or.inl ⟨by rfl, ?_⟩) ?_ ?_
    rotate_left
    · intro w'
      go_simp
      with_reducible rfl
    rotate_left
    · simp only [Act.put, List.setIfInBounds_toArray, List.set_cons_zero, List.set_cons_succ, i64_w, i32_w]
      rfl
    refine pure_ (i := 15) (N := some 62) (v := ?_) (a' := ?_) #[true, true, true, true, true, true, true, true, true, true, true, true, true, true, true, true, false, false, false, false, false, false, false, false, false, false] rfl rfl (any_of HT_.out (by kernel_rfl)) (fun _ _ _ h => h) (Or.inl ⟨by rfl, ?_⟩) ?_ ?_
    rotate_left
    · intro w'
      go_simp
      with_reducible rfl
    rotate_left
    · simp only [Act.put, List.setIfInBounds_toArray, List.set_cons_zero, List.set_cons_succ, i64_w, i32_w]
      rfl
    refine pure_ (i := 16) (N := some 63) (v := ?_) (a' := ?_) #[true, true, true, true, true, true, true, true, true, true, true, true, true, true, true, true, true, false, false, false, false, false, false, false, false, false] rfl rfl (any_of HT_.out (by kernel_rfl)) (fun _ _ _ h => h) (Or.inl ⟨by rfl, ?_⟩) ?_ ?_
    rotate_left
    · intro w'
      go_simp
      with_reducible rfl
    rotate_left
    · simp only [Act.put, List.setIfInBounds_toArray, List.set_cons_zero, List.set_cons_succ, i64_w, i32_w]
      rfl
    refine pure_ (i := 17) (N := some 64) (v := ?_) (a' := ?_) #[true, true, true, true, true, true, true, true, true, true, true, true, true, true, true, true, true, true, false, false, false, false, false, false, false, false] rfl rfl (any_of HT_.out (by kernel_rfl)) (fun _ _ _ h => h) (Or.inl ⟨by rfl, ?_⟩) ?_ ?_
    rotate_left
    · intro w'
      go_simp
      with_reducible rfl
    rotate_left
    · simp only [Act.put, List.setIfInBounds_toArray, List.set_cons_zero, List.set_cons_succ, i64_w, i32_w]
      rfl
    refine take_ (i := 19) (N := some 66) (v := ?_) (a' := ?_) #[true, true, true, true, true, true, true, true, true, true, true, true, true, true, true, true, true, true, false, true, false, false, false, false, false, false] rfl rfl (take_ofW HT_.out HW_.out (by kernel_rfl)) (fun _ _ _ h => h) (Or.inl ⟨by rfl, ?_⟩) hHeld ?_ ?_
    rotate_left
    · rintro w' ⟨s0, s1, s2⟩
      go_simp
      with_reducible rfl
    rotate_left
    · simp only [Act.put, List.setIfInBounds_toArray, List.set_cons_zero, List.set_cons_succ, i64_w, i32_w]
      rfl
    refine one_ (i := 18) (N := some 65) #[true, true, true, true, true, true, true, true, true, true, true, true, true, true, true, true, true, true, true, true, false, false, false, false, false, false] rfl rfl (one_of HT_.out (by kernel_rfl)) (by decide) (fun Kx_ hKx_ => ?_)
    refine goes_ Try.func37 (by kernel_rfl) rfl #[.slice A8 n c8] (by rfl) rfl rfl (by (try simp only [List.map_toArray, List.map_cons, List.map_nil]); first | done | rfl) ?_
    refine (clone_rep A8 c8 n _ HN.out (HD.fact 3 rfl (fun S h => by have h2 := Kd.R_reads' h; rw [List.length_replicate] at h2; exact h2.2.2)) HC8.out).mono ?_
    rintro e w7 ⟨v7, rfl, hR, hb⟩
    have H7' := HD.made 5 hb hR
    obtain ⟨A11, c11, hv7⟩ := Kd.R_slice hR
    rw [List.length_replicate] at hv7
    subst hv7
    clear hR hb
    have H7 : Hp w w7 [(0, Asn.old w (fun _ => False)), (0, Asn.rd U8 A2 b.length b), (1, Asn.box g4 #[.string x.f0, .string x.f1, .bool x.f2] 33), (2, Asn.row U8 5 (.slice A8 n c8) (List.replicate n 0)), (3, Asn.row U8 5 (.slice A9 yb.length c9) yb), (4, Asn.row U8 5 (.slice A10 yt.length c10) yt), (5, Asn.row U8 5 (.slice A11 n c11) (List.replicate n 0))] := H7'
    clear H7'
    refine ⟨_, rfl, ?_⟩
    refine hKx_.out _ _ ⟨(H7.cell 2 rfl 0 (v := .string x.f0) rfl), (H7.cell 2 rfl 1 (v := .string x.f1) rfl), (H7.cell 2 rfl 2 (v := .bool x.f2) rfl)⟩ (fun hHeld => ?_)
    clear hKx_ Kx_
    refine norm_ (a' := ?_) ?_ ?_
    rotate_left
    · show Act.put _ (some 65) _ = _
      simp only [Act.put, List.setIfInBounds_toArray, List.set_cons_zero, List.set_cons_succ, i64_w, i32_w]
      rfl
    refine one_ (i := 20) (N := some 67) #[true, true, true, true, true, true, true, true, true, true, true, true, true, true, true, true, true, true, true, true, true, false, false, false, false, false] rfl rfl (one_of HT_.out (by kernel_rfl)) (by decide) (fun Kx_ hKx_ => ?_)
    refine goes_ Try.func42 (by kernel_rfl) rfl #[.agg #[.string x.f0, .string x.f1, .bool x.f2]] (by rfl) rfl rfl (by (try simp only [List.map_toArray, List.map_cons, List.map_nil]); first | done | rfl) ?_
    refine (cressetref03_WriteForm.calls kf x.f0 x.f1 x.f2 yb _ HKF.out).mono ?_
    rintro e w8 ⟨v8, rfl, hR, hb⟩
    have H8' := H7.made 6 hb hR
    obtain ⟨A12, c12, rfl⟩ := Kd.R_slice hR
    clear hR hb
    have H8 : Hp w w8 [(0, Asn.old w (fun _ => False)), (0, Asn.rd U8 A2 b.length b), (1, Asn.box g4 #[.string x.f0, .string x.f1, .bool x.f2] 33), (2, Asn.row U8 5 (.slice A8 n c8) (List.replicate n 0)), (3, Asn.row U8 5 (.slice A9 yb.length c9) yb), (4, Asn.row U8 5 (.slice A10 yt.length c10) yt), (5, Asn.row U8 5 (.slice A11 n c11) (List.replicate n 0)), (6, Asn.row U8 5 (.slice A12 yb.length c12) yb)] := H8'
    clear H8'
    refine ⟨_, rfl, ?_⟩
    refine hKx_.out _ _ ⟨(H8.cell 2 rfl 0 (v := .string x.f0) rfl), (H8.cell 2 rfl 1 (v := .string x.f1) rfl), (H8.cell 2 rfl 2 (v := .bool x.f2) rfl)⟩ (fun hHeld => ?_)
    clear hKx_ Kx_
    refine norm_ (a' := ?_) ?_ ?_
    rotate_left
    · show Act.put _ (some 67) _ = _
      simp only [Act.put, List.setIfInBounds_toArray, List.set_cons_zero, List.set_cons_succ, i64_w, i32_w]
      rfl
    refine one_ (i := 21) (N := some 68) #[true, true, true, true, true, true, true, true, true, true, true, true, true, true, true, true, true, true, true, true, true, true, false, false, false, false] rfl rfl (one_of HT_.out (by kernel_rfl)) (by decide) (fun Kx_ hKx_ => ?_)
    refine step_append_rows U8 H8 6 rfl (.tmp 65) (.tmp 67) 42 5 (.int .u8 0) 1 rfl Try.underlying42 info5 rfl (by decide) (by omega) (.slice A11 n c11) (List.replicate n 0) yb A12 yb.length c12 rfl rfl rfl rfl (H8.row_C 7 rfl).2.2 (fun x cs h => h) (by have := HYL.out; have := HN.out; rw [List.length_replicate]; omega) ?_
    intro v9 w9 H9'
    rw [HYT.out] at H9'
    obtain ⟨A13, c13, rfl⟩ := H9'.fact 6 rfl (fun S h => Kd.R_slice h)
    have H9 : Hp w w9 [(0, Asn.old w (fun _ => False)), (0, Asn.rd U8 A2 b.length b), (1, Asn.box g4 #[.string x.f0, .string x.f1, .bool x.f2] 33), (2, Asn.row U8 5 (.slice A8 n c8) (List.replicate n 0)), (3, Asn.row U8 5 (.slice A9 yb.length c9) yb), (4, Asn.row U8 5 (.slice A10 yt.length c10) yt), (5, Asn.row U8 5 (.slice A13 yt.length c13) yt), (6, Asn.row U8 5 (.slice A12 yb.length c12) yb)] := H9'
    clear H9'
    refine hKx_.out _ _ ⟨(H9.cell 2 rfl 0 (v := .string x.f0) rfl), (H9.cell 2 rfl 1 (v := .string x.f1) rfl), (H9.cell 2 rfl 2 (v := .bool x.f2) rfl)⟩ (fun hHeld => ?_)
    clear hKx_ Kx_
    refine norm_ (a' := ?_) ?_ ?_
    rotate_left
    · show Act.put _ (some 68) _ = _
      simp only [Act.put, List.setIfInBounds_toArray, List.set_cons_zero, List.set_cons_succ, i64_w, i32_w]
      rfl
    refine one_ (i := 22) (N := some 69) #[true, true, true, true, true, true, true, true, true, true, true, true, true, true, true, true, true, true, true, true, true, true, true, false, false, false] rfl rfl (one_of HT_.out (by kernel_rfl)) (by decide) (fun Kx_ hKx_ => ?_)
    refine goes_ Try.func30 (by kernel_rfl) rfl #[.slice A10 yt.length c10, .slice A13 yt.length c13] (by rfl) rfl rfl (by (try simp only [List.map_toArray, List.map_cons, List.map_nil]); first | done | rfl) ?_
    refine (bytes_Equal.calls A10 c10 yt A13 c13 yt true _ (H9.row_C 5 rfl).2.2 (H9.row_C 5 rfl).2.1 (H9.row_C 6 rfl).2.2 (H9.row_C 6 rfl).2.1 HEQ.out).mono ?_
    rintro e w10 ⟨rfl, ⟨nd, rfl⟩⟩
    have H10 := H9.drewN nd
    refine ⟨_, rfl, ?_⟩
    refine hKx_.out _ _ ⟨(H10.cell 2 rfl 0 (v := .string x.f0) rfl), (H10.cell 2 rfl 1 (v := .string x.f1) rfl), (H10.cell 2 rfl 2 (v := .bool x.f2) rfl)⟩ (fun hHeld => ?_)
    clear hKx_ Kx_
    refine norm_ (a' := ?_) ?_ ?_
    rotate_left
    · show Act.put _ (some 69) _ = _
      simp only [Act.put, List.setIfInBounds_toArray, List.set_cons_zero, List.set_cons_succ, i64_w, i32_w]
      rfl
    refine pure_ (i := 23) (N := some 70) (v := ?_) (a' := ?_) #[true, true, true, true, true, true, true, true, true, true, true, true, true, true, true, true, true, true, true, true, true, true, true, true, false, false] rfl rfl (any_of HT_.out (by kernel_rfl)) (fun _ _ _ h => h) (Or.inl ⟨by rfl, ?_⟩) ?_ ?_
    rotate_left
    · intro w'
      go_simp
      with_reducible rfl
    rotate_left
    · simp only [Act.put, List.setIfInBounds_toArray, List.set_cons_zero, List.set_cons_succ, i64_w, i32_w]
      rfl
    refine pure_ (i := 24) (N := some 71) (v := ?_) (a' := ?_) #[true, true, true, true, true, true, true, true, true, true, true, true, true, true, true, true, true, true, true, true, true, true, true, true, true, false] rfl rfl (any_of HT_.out (by kernel_rfl)) (fun _ _ _ h => h) (Or.inl ⟨by rfl, ?_⟩) ?_ ?_
    rotate_left
    · intro w'
      go_simp
      with_reducible rfl
    rotate_left
    · simp only [Act.put, List.setIfInBounds_toArray, List.set_cons_zero, List.set_cons_succ, i64_w, i32_w]
      rfl
    refine pure_ (i := 25) (N := some 72) (v := ?_) (a' := ?_) #[true, true, true, true, true, true, true, true, true, true, true, true, true, true, true, true, true, true, true, true, true, true, true, true, true, true] rfl rfl (any_of HT_.out (by kernel_rfl)) (fun _ _ _ h => h) (Or.inl ⟨by rfl, ?_⟩) ?_ ?_
    rotate_left
    · intro w'
      go_simp
      with_reducible rfl
    rotate_left
    · simp only [Act.put, List.setIfInBounds_toArray, List.set_cons_zero, List.set_cons_succ, i64_w, i32_w]
      rfl
    refine done_ (done_of HT_.out (by kernel_rfl)) ?_
    clear HT_ HW_ hHeld
    have H11 : Hp w _ [(0, Asn.old w (fun _ => False)), (0, Asn.rd U8 A2 b.length b)] := H10.keep [0, 1]
    clear H10
    have hsub : wrap64 ((b.length : Int) - (m : Int)) = sz := by rw [HSZ.out]; exact Cod.wr1 (by have := HM.out; omega) (by have := HLB.out; omega)
    go_wp2_with (first
      | (go_at_call 44; refine (HT44.out A2 c2 _ (H11.reads 1 rfl) HC.out).mono ?_; rintro e w12 ⟨rfl, hb⟩; have H12 := H11.same hb; clear hb H11)
      | ((with_reducible refine gate_dst (N := 12) rfl ?_); refine Hp.at_box H12 1 ?hg (N := 12) ?hd (cs := #[.string ⟨#[]⟩, .string ⟨#[]⟩, .bool false]) (t := 33) ?hr ?_; (case hd => rfl); (case hg => rfl); (case hr => first | (go_simp; done) | (go_simp; rfl)); intro g12 vg12 H13z; clear H12; have k0 := H13z.cell 2 rfl 0 (v := .string ⟨#[]⟩) rfl; have k1 := H13z.cell 2 rfl 1 (v := .string ⟨#[]⟩) rfl; have k2 := H13z.cell 2 rfl 2 (v := .bool false) rfl; have uk0 := H13z.unfrozen 2 rfl 0; have uk1 := H13z.unfrozen 2 rfl 1; have uk2 := H13z.unfrozen 2 rfl 2; have H13 := Hp.box_sets (i := 1) (p := 2) [.string y.f0, .string y.f1, .bool y.f2] 0 _ _ _ H13z rfl rfl; simp only [sets, Nat.zero_add, Nat.reduceAdd] at H13)
      | (go_at_call 45; refine (HT45.out A2 c2 _ (H13.reads 1 rfl) HC.out).mono ?_; rintro e w14 ⟨A14, c14, rfl, hb⟩; have H14 := H13.same hb; clear hb H13 H13z k0 k1 k2 uk0 uk1 uk2)
      | ((with_reducible refine gate_dst (N := 14) rfl ?_); refine Hp.at_box H14 2 ?hg (N := 14) ?hd (cs := #[.string ⟨#[]⟩, .string ⟨#[]⟩, .bool false]) (t := 33) ?hr ?_; (case hd => rfl); (case hg => rfl); (case hr => first | (go_simp; done) | (go_simp; rfl)); intro g14 vg14 H15z; clear H14; have k0 := H15z.cell 3 rfl 0 (v := .string ⟨#[]⟩) rfl; have k1 := H15z.cell 3 rfl 1 (v := .string ⟨#[]⟩) rfl; have k2 := H15z.cell 3 rfl 2 (v := .bool false) rfl; have uk0 := H15z.unfrozen 3 rfl 0; have uk1 := H15z.unfrozen 3 rfl 1; have uk2 := H15z.unfrozen 3 rfl 2; have H15 := Hp.box_sets (i := 2) (p := 3) [.string y.f0, .string y.f1, .bool y.f2] 0 _ _ _ H15z rfl rfl; simp only [sets, Nat.zero_add, Nat.reduceAdd] at H15; have r0 := H15.cell 2 rfl 0 (v := .string y.f0) rfl; have r1 := H15.cell 2 rfl 1 (v := .string y.f1) rfl; have r2 := H15.cell 2 rfl 2 (v := .bool y.f2) rfl; have t0 := H15.cell 3 rfl 0 (v := .string y.f0) rfl; have t1 := H15.cell 3 rfl 1 (v := .string y.f1) rfl; have t2 := H15.cell 3 rfl 2 (v := .bool y.f2) rfl))
    go_ret
    exact ⟨rfl, H15.below 0 rfl (fun _ h => h)⟩
theorem RecordParts : cressetlaw03_RecordParts.Pure := by
  intro a0 s1 s2 fl A2 c2 b w hr hc w0 w10 w11 w2
  have ha : 0 ≤ a0 ∧ a0 ≤ 4294967295 := by
    simp [Lit.wf, IntKind.min, IntKind.max, IntKind.bits, IntKind.signed] at w0
    omega
  have hb : Bytes b := Go.Proofs.Ytkcdmoghnoodmaa.Cod.Bytes.of w2.2.2
  have hl : b.length ≤ 140737488351232 := by have := w2.2.1; omega
  by_cases he : wrE ⟨s1, s2, fl⟩ = 0
  · by_cases hf : ahead a0 + (wB ⟨s1, s2, fl⟩).length ≤ 1048576
    · exact parts_go3 a0 ⟨s1, s2, fl⟩ A2 c2 b w hr hc hb hl ha.1 ha.2 he hf
    · exact parts_go2 a0 ⟨s1, s2, fl⟩ A2 c2 b w hr hc hb hl ha.1 ha.2 he (by omega)
  · exact parts_go1 a0 ⟨s1, s2, fl⟩ A2 c2 b w hr hc hb hl ha.1 ha.2 he

end Go.Proofs.Ytkcdmoghnoodmaa.Pa

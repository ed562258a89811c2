/-
Of the row VersionOwn: printed walks and plain laws, merged (wip/claim2.py).
-/
import Derived.Test.YtpakolohhoegfaaQVersionOwn3
import Derived.Test.YtpakolohhoegfaaQVersionOwn4
import Derived.Test.YtpakolohhoegfaaQVersionOwn7
import Derived.Test.YtpakolohhoegfaaQVersionOwn14
import Derived.Test.YtpakolohhoegfaaQVersionOwn16
import Derived.Test.YtpakolohhoegfaaQVersionOwn18
import Derived.Test.YtpakolohhoegfaaQVersionOwn19
set_option linter.unusedVariables false
set_option linter.unusedSimpArgs false
namespace Go.Proofs.Ytpakolohhoegfaa.Vo
open Go.RowKit Go.Maps Go.WideMaps Go.Proofs.Ytpakolohhoegfaa.B Go.Proofs.YtpakolohhoegfaaW.PrintWords Go.Proofs.YtpakolohhoegfaaW.PrintLast Go.Proofs.YtpakolohhoegfaaW.PrintMore Go.Proofs.YtpakolohhoegfaaW.Mine Go.Proofs.YtpakolohhoegfaaW.Hp Go.Proofs.Ytpakolohhoegfaa.Mv Go.Proofs.Ytpakolohhoegfaa.Lib

set_option maxRecDepth 100000
theorem nxb {i : Nat} (h : i < 9223372036854775807) : Value.int .i64 (wrap64 ((i : Int) + 1)) = .int .i64 ((i + 1 : Nat) : Int) := by
  rw [Mv.wr1 (by omega) (by omega)]
  rfl
theorem h33 : Kd.Heap k33 := Kd.heap_iso _ (Kd.heap_pair (Kd.heap_int _) (Kd.heap_pair Kd.heap_string Kd.heap_bool))
theorem h50 : Kd.Heap k50 := Kd.heap_iso _ (Kd.heap_pair Kd.heap_string Kd.heap_string)
theorem h58 : Kd.Heap k58 := Kd.heap_iso _ (Kd.heap_pair Kd.heap_string (Kd.heap_pair Kd.heap_string Kd.heap_bool))
def voA.T1 : Bool × List (List Nat × List Nat) := (true, [([], []), ([0], [0]), ([], []), ([2], [2]), ([3, 1], [3]), ([1, 4, 0, 1], [1]), ([4, 5, 0, 1, 2, 3, 4, 5], [4])])
def voA.B1 : List Nat := [0, 1, 0, 4, 15, 31, 63]
theorem voA.tab1 : rtab .any (opsOf Try.f6 1) = voA.T1 := by kernel_rfl
theorem voA.bits1 : waitsOk voA.T1.2 voA.B1 = true := by kernel_rfl
def voB.T13 : Bool × List (List Nat × List Nat) := (true, [([], []), ([0], [0]), ([], []), ([2], [2]), ([1, 3], [1, 3]), ([], []), ([5], [5]), ([], []), ([7], [7]), ([6, 8, 4], [6, 8]), ([4, 9], [4, 9]), ([10], [10]), ([], [])])
def voB.B13 : List Nat := [0, 1, 0, 4, 15, 0, 32, 0, 128, 511, 1023, 2047, 0]
theorem voB.tab13 : rtab .any (opsOf Try.f6 13) = voB.T13 := by kernel_rfl
theorem voB.bits13 : waitsOk voB.T13.2 voB.B13 = true := by kernel_rfl
set_option maxHeartbeats 16000000 in
theorem go (A0 : Option Addr) (c0 : Nat) (l0 : List S33) (ts : Int) (x : ByteArray) (dl : Bool) (A2 : Option Addr) (c2 : Nat) (l2 : List S50) (A3 : Option Addr) (c3 : Nat) (l3 : List S58) (A4 : Option Addr) (n4 c4 : Nat) (f lw : ByteArray) (u v : Int) (w : World) (hr0 : Kd.C k33 w A0 l0.length l0) (hc0 : l0.length ≤ c0) (hr2 : Kd.C k50 w A2 l2.length l2) (hc2 : l2.length ≤ c2) (hr3 : Kd.C k58 w A3 l3.length l3) (hc3 : l3.length ≤ c3)
    (n0 : l0.length ≤ 1048576) (n2 : l2.length ≤ 1048576) (n3 : l3.length ≤ 1048576) (hk : ∀ p ∈ l2, p.f0.size ≤ maxLen) (hw : ∀ y ∈ l3, y.f0.size ≤ maxLen) :
    Calls Try.prog 6 #[.slice A0 l0.length c0, .agg #[.int .i64 ts, .string x, .bool dl], .agg #[.slice A2 l2.length c2, .slice A3 l3.length c3, .slice A4 n4 c4, .string f, .string lw, .int .i64 u, .int .i64 v]] w fun e w' => e = .returned (.bool true) ∧ Below w.heap.size w w' := by
  have H := (((Hp.start w).came h33 0 rfl hr0).came h50 0 rfl hr2).came h58 0 rfl hr3
  have HC0 : Aside0 (api_Version_23.f l0 = some l0) := ⟨by unfold api_Version_23.f; rw [if_pos (by omega)]⟩
  have HC2 : Aside0 (api_Pair_24.f l2 = some l2) := ⟨by unfold api_Pair_24.f; rw [if_pos (by omega)]⟩
  obtain ⟨kp, hkp⟩ := (put_ev l0 ⟨ts, x, dl⟩).rounds
  obtain ⟨r1, r2, hmore⟩ : ∃ r1 r2, more l0 ⟨ts, x, dl⟩ = (r1, r2) := ⟨_, _, rfl⟩
  rw [hmore] at hkp
  obtain ⟨kq, hkq⟩ := (prune_ev l0 ts (by omega)).rounds
  obtain ⟨q1, q2, hprn⟩ : ∃ q1 q2, prn ts false l0 = (q1, q2) := ⟨_, _, rfl⟩
  rw [hprn] at hkq
  have tov := overlay_tr A2 c2 l2 A3 c3 l3 hk hw (by omega) (by omega)
  have tsl := slice_tr A2 c2 l2 ⟨f, lw⟩ hc2 (by omega)
  generalize (ov l2 l3).map pr = os at tov
  generalize sl ⟨f, lw⟩ l2 = ss at tsl
  have TOV := Aside0.mk tov
  have TSL := Aside0.mk tsl
  clear tov tsl hk hw
  obtain ⟨kl, hkl⟩ := live_ev.rounds
  have HKL := Aside0.mk hkl
  have hsm := sameR_ev l0 l0 (by omega)
  rw [same_refl] at hsm
  obtain ⟨ks, hks⟩ := hsm.rounds
  have HKS := Aside0.mk hks
  obtain ⟨kt, hkt⟩ := (samePairs_ev l2 (by omega)).rounds
  have HKT := Aside0.mk hkt
  clear hkl hks hkt hsm
  have HKP := Aside0.mk hkp
  have HKQ := Aside0.mk hkq
  have HN := Aside0.mk (And.intro n0 (And.intro n2 n3))
  clear hkp hkq hmore hprn n0 n2 n3 hr0 hr2 hr3
  go_enter Try.func6, Try.ntmps6
  go_upto_region 1 with (first
    | ((with_reducible refine gate_dst (N := 4) rfl ?_); refine Hp.at_box H 1 ?hg (N := 4) ?hd (cs := #[.int .i64 ts, .string x, .bool dl]) (t := 33) ?hr ?_; (case hd => rfl); (case hg => rfl); (case hr => first | (go_simp; done) | (go_simp; rfl)); intro g4 w1 H1; clear H)
    | ((with_reducible refine gate_dst (N := 5) rfl ?_); refine Hp.at_box H1 2 ?hg (N := 5) ?hd (cs := #[.slice A2 l2.length c2, .slice A3 l3.length c3, .slice A4 n4 c4, .string f, .string lw, .int .i64 u, .int .i64 v]) (t := 46) ?hr ?_; (case hd => rfl); (case hg => rfl); (case hr => first | (go_simp; done) | (go_simp; rfl)); intro g5 w2 H2; clear H1))
  have HD := H2.drew
  clear H2
  refine start_ (n := 7) (S := fun w' => w'.cell? ⟨g5, 0, none⟩ = some (.slice A2 l2.length c2)) (ds := []) #[false, false, false, false, false, false, false] (by kernel_rfl) rfl rfl (HD.cell 5 rfl 0 (v := .slice A2 l2.length c2) rfl) (fun hHeld => ?_); refine with_tabW voA.tab1 voA.bits1 (fun HT_ HW_ => ?_)
  refine pure_ (i := 0) (N := some 19) (v := ?_) (a' := ?_) #[true, false, false, false, false, false, false] rfl rfl (any_of HT_.out (by kernel_rfl)) (fun _ _ _ h => h) (Or.inl ⟨by rfl, ?_⟩) ?_ ?_
  rotate_left
  · intro w'
    go_simp
    with_reducible rfl
  rotate_left
  · simp only [Act.put, List.setIfInBounds_toArray, List.set_cons_zero, List.set_cons_succ, i64_w, i32_w]
    rfl
  refine pure_ (i := 2) (N := some 21) (v := ?_) (a' := ?_) #[true, false, true, false, false, false, false] rfl rfl (any_of HT_.out (by kernel_rfl)) (fun _ _ _ h => h) (Or.inl ⟨by rfl, ?_⟩) ?_ ?_
  rotate_left
  · intro w'
    go_simp
    with_reducible rfl
  rotate_left
  · simp only [Act.put, List.setIfInBounds_toArray, List.set_cons_zero, List.set_cons_succ, i64_w, i32_w]
    rfl
  refine take_ (i := 3) (N := some 22) (v := ?_) (a' := ?_) #[true, false, true, true, false, false, false] rfl rfl (take_ofW HT_.out HW_.out (by kernel_rfl)) (fun _ _ _ h => h) (Or.inl ⟨by rfl, ?_⟩) hHeld ?_ ?_
  rotate_left
  · rintro w' s0
    go_simp
    with_reducible rfl
  rotate_left
  · simp only [Act.put, List.setIfInBounds_toArray, List.set_cons_zero, List.set_cons_succ, i64_w, i32_w]
    rfl
  refine one_ (i := 1) (N := some 20) #[true, true, true, true, false, false, false] rfl rfl (one_of HT_.out (by kernel_rfl)) (by decide) (fun Kx_ hKx_ => ?_)
  refine goes_ Try.func23 (by kernel_rfl) rfl #[.slice A0 l0.length c0] (by rfl) rfl rfl (by (try simp only [List.map_toArray, List.map_cons, List.map_nil]); first | done | rfl) ?_
  refine (api_Version_23.calls A0 c0 l0 l0 _ (Kd.F_now (HD.fact 1 rfl (φ := Kd.F k33 _ (fun _ => True) A0 l0.length l0) (fun S h => Kd.F_mono h (fun _ _ => trivial)))) hc0 HC0.out).mono ?_
  rintro e w6 ⟨v7, rfl, hR, hb⟩
  obtain ⟨A7, c7, rfl⟩ := Kd.R_slice hR
  have H6 := HD.made 3 hb hR
  clear hb hR HD
  refine ⟨_, rfl, ?_⟩
  refine hKx_.out _ _ (H6.cell 5 rfl 0 (v := .slice A2 l2.length c2) rfl) (fun hHeld => ?_)
  clear hKx_ Kx_
  refine norm_ (a' := ?_) ?_ ?_
  rotate_left
  · show Act.put _ (some 20) _ = _
    simp only [Act.put, List.setIfInBounds_toArray, List.set_cons_zero, List.set_cons_succ, i64_w, i32_w]
    rfl
  refine one_ (i := 4) (N := some 23) #[true, true, true, true, true, false, false] rfl rfl (one_of HT_.out (by kernel_rfl)) (by decide) (fun Kx_ hKx_ => ?_)
  refine goes_ Try.func24 (by kernel_rfl) rfl #[.slice A2 l2.length c2] (by rfl) rfl rfl (by (try simp only [List.map_toArray, List.map_cons, List.map_nil]); first | done | rfl) ?_
  refine (api_Pair_24.calls A2 c2 l2 l2 _ (Kd.F_now (H6.fact 2 rfl (φ := Kd.F k50 _ (fun _ => True) A2 l2.length l2) (fun S h => Kd.F_mono h (fun _ _ => trivial)))) hc2 HC2.out).mono ?_
  rintro e w7 ⟨v8, rfl, hR, hb⟩
  obtain ⟨A8, c8, rfl⟩ := Kd.R_slice hR
  have H7 := H6.made 4 hb hR
  clear hb hR H6
  refine ⟨_, rfl, ?_⟩
  refine hKx_.out _ _ (H7.cell 5 rfl 0 (v := .slice A2 l2.length c2) rfl) (fun hHeld => ?_)
  clear hKx_ Kx_
  refine norm_ (a' := ?_) ?_ ?_
  rotate_left
  · show Act.put _ (some 23) _ = _
    simp only [Act.put, List.setIfInBounds_toArray, List.set_cons_zero, List.set_cons_succ, i64_w, i32_w]
    rfl
  refine pure_ (i := 5) (N := some 7) (v := ?_) (a' := ?_) #[true, true, true, true, true, true, false] rfl rfl (any_of HT_.out (by kernel_rfl)) (fun _ _ _ h => h) (Or.inl ⟨by rfl, ?_⟩) ?_ ?_
  rotate_left
  · intro w'
    go_simp
    with_reducible rfl
  rotate_left
  · simp only [Act.put, List.setIfInBounds_toArray, List.set_cons_zero, List.set_cons_succ, i64_w, i32_w]
    rfl
  refine pure_ (i := 6) (N := some 8) (v := ?_) (a' := ?_) #[true, true, true, true, true, true, true] rfl rfl (any_of HT_.out (by kernel_rfl)) (fun _ _ _ h => h) (Or.inl ⟨by rfl, ?_⟩) ?_ ?_
  rotate_left
  · intro w'
    go_simp
    with_reducible rfl
  rotate_left
  · simp only [Act.put, List.setIfInBounds_toArray, List.set_cons_zero, List.set_cons_succ, i64_w, i32_w]
    rfl
  refine done_ (done_of HT_.out (by kernel_rfl)) ?_
  clear HT_ HW_ hHeld
  have z0 := H7.cell 4 rfl 0 (v := .int .i64 ts) rfl
  have z1 := H7.cell 4 rfl 1 (v := .string x) rfl
  have z2 := H7.cell 4 rfl 2 (v := .bool dl) rfl
  go_wp2_with (first
    | (go_at_call 20; refine (version_Put.calls kp (fun _ => True) A0 c0 l0 ts x dl r1 r2 _ (Kd.V_mk hc0 (H7.fact 1 rfl (φ := Kd.F k33 _ (fun _ => True) A0 l0.length l0) (fun S h => Kd.F_mono h (fun _ _ => trivial)))) HKP.out).mono ?_; rintro e w8 ⟨v9, rfl, hR, hb⟩; obtain ⟨A9, c9, rfl⟩ := Kd.R_slice hR; have H8 := H7.made 5 hb (Kd.R_mono hR (fun _ _ => trivial)); obtain ⟨H9, f9⟩ := H8.row_buf 8 rfl; clear hb hR H7 H8 z0 z1 z2; have y0 := H9.cell 4 rfl 0 (v := .int .i64 ts) rfl)
    | (go_at_call 10; refine (version_Prune.calls kq A0 c0 l0 ts q1 q2 _ (Kd.F_now (H9.fact 1 rfl (φ := Kd.F k33 _ (fun _ => True) A0 l0.length l0) (fun S h => Kd.F_mono h (fun _ _ => trivial)))) hc0 HKQ.out).mono ?_; rintro e w10 ⟨v11, v12, rfl, hR1, hR2, hb⟩; obtain ⟨A11, c11, rfl⟩ := Kd.R_slice hR1; obtain ⟨A12, c12, rfl⟩ := Kd.R_slice hR2; obtain ⟨H10, f11, f12⟩ := H9.two_buf 6 hb hR1 hR2; have H11 := H10.split 9 7 rfl rfl (by decide); clear hb hR1 hR2 H9 H10 y0; have H12 := H11.box_new 8 #[.slice A9 r1.length c9, .slice A11 q1.length c11, .slice A12 q2.length c12] 22))
  have H13 : Hp w _ [(0, Asn.old w (fun _ => False)), (0, Asn.rd k33 A0 l0.length l0), (0, Asn.rd k50 A2 l2.length l2), (0, Asn.rd k58 A3 l3.length l3), (1, Asn.box g4 #[.int .i64 ts, .string x, .bool dl] 33), (2, Asn.box g5 #[.slice A2 l2.length c2, .slice A3 l3.length c3, .slice A4 n4 c4, .string f, .string lw, .int .i64 u, .int .i64 v] 46), (3, Asn.row k33 33 (.slice A7 l0.length c7) l0), (4, Asn.row k50 50 (.slice A8 l2.length c8) l2), (5, Buf (c9 * k33.sz) 33 A9), (6, Buf (c11 * k33.sz) 33 A11), (7, Buf (c12 * k33.sz) 33 A12), (8, Asn.box w10.heap.size #[.slice A9 r1.length c9, .slice A11 q1.length c11, .slice A12 q2.length c12] 22)] := H12
  clear H11 H12
  go_loopg [42] 3 (fun gk v42 wr' => ∃ i : Nat, v42 = .int .i64 i ∧ i ≤ 3 ∧ 3 - i ≤ gk ∧ Aside0 (Hp w wr' [(0, Asn.old w (fun _ => False)), (0, Asn.rd k33 A0 l0.length l0), (0, Asn.rd k50 A2 l2.length l2), (0, Asn.rd k58 A3 l3.length l3), (1, Asn.box g4 #[.int .i64 ts, .string x, .bool dl] 33), (2, Asn.box g5 #[.slice A2 l2.length c2, .slice A3 l3.length c3, .slice A4 n4 c4, .string f, .string lw, .int .i64 u, .int .i64 v] 46), (3, Asn.row k33 33 (.slice A7 l0.length c7) l0), (4, Asn.row k50 50 (.slice A8 l2.length c8) l2), (5, Buf (c9 * k33.sz) 33 A9), (6, Buf (c11 * k33.sz) 33 A11), (7, Buf (c12 * k33.sz) 33 A12), (8, Asn.box w10.heap.size #[.slice A9 r1.length c9, .slice A11 q1.length c11, .slice A12 q2.length c12] 22)]))
  case atStart => exact ⟨0, rfl, Nat.zero_le _, by omega, ⟨H13⟩⟩
  case round =>
    clear H13
    obtain ⟨i, rfl, hil, hgk, HH⟩ := hrel
    have HGK := Aside0.mk hgk
    have hi4 : i = 0 ∨ i = 1 ∨ i = 2 ∨ i = 3 := by omega
    clear hgk hil
    have H5 := HH.out
    clear HH
    have d0 := H5.cell 11 rfl 0 (v := .slice A9 r1.length c9) rfl
    have d1 := H5.cell 11 rfl 1 (v := .slice A11 q1.length c11) rfl
    have d2 := H5.cell 11 rfl 2 (v := .slice A12 q2.length c12) rfl
    rcases hi4 with rfl | rfl | rfl | rfl
    · go_wp2
      go_loopg [48] r1.length (fun gk2 v48 wr' => ∃ j : Nat, v48 = .int .i64 j ∧ j ≤ r1.length ∧ r1.length - j ≤ gk2 ∧ Aside0 (Hp w wr' [(0, Asn.old w (fun _ => False)), (0, Asn.rd k33 A0 l0.length l0), (0, Asn.rd k50 A2 l2.length l2), (0, Asn.rd k58 A3 l3.length l3), (1, Asn.box g4 #[.int .i64 ts, .string x, .bool dl] 33), (2, Asn.box g5 #[.slice A2 l2.length c2, .slice A3 l3.length c3, .slice A4 n4 c4, .string f, .string lw, .int .i64 u, .int .i64 v] 46), (3, Asn.row k33 33 (.slice A7 l0.length c7) l0), (4, Asn.row k50 50 (.slice A8 l2.length c8) l2), (5, Buf (c9 * k33.sz) 33 A9), (6, Buf (c11 * k33.sz) 33 A11), (7, Buf (c12 * k33.sz) 33 A12), (8, Asn.box w10.heap.size #[.slice A9 r1.length c9, .slice A11 q1.length c11, .slice A12 q2.length c12] 22)]))
      case atStart => exact ⟨0, rfl, Nat.zero_le _, by omega, ⟨H5⟩⟩
      case round =>
        clear H5 d0 d1 d2
        obtain ⟨j, rfl, hjl, hgk2, HH⟩ := hrel
        have HGK2 := Aside0.mk hgk2
        clear hgk2
        by_cases hlt : j < r1.length
        · have hltz : (j : Int) < (r1.length : Int) := by omega
          rcases f9 with ⟨_, h2⟩ | ⟨g, rfl, hnc, hcm⟩
          · omega
          · obtain ⟨⟨⟨v0, hv⟩, hz⟩, HS⟩ := HH.out.buf_set 8 rfl rfl (j * 3) (by show j * 3 < c9 * 3; omega) (.int .i64 (-1))
            have HS2 := Aside0.mk HS
            have HNC := Aside0.mk (And.intro hnc hcm)
            have HLT := Aside0.mk hlt
            clear HH HS hnc hcm
            go_wp2
            go_roundg (r1.length - (j + 1))
            case measure => have := HGK2.out; omega
            case rel => exact ⟨j + 1, by first | rfl | (go_num; done) | exact nxb (by have := HLT.out; have := HNC.out; simp only [maxLen] at this; omega), by have := HLT.out; omega, by omega, HS2⟩
        · have hle : j = r1.length := by omega
          have hltz : ¬ (j : Int) < (r1.length : Int) := by omega
          have H6 := HH.out
          clear HH
          go_wp2
          go_roundg (3 - (0 + 1))
          case measure => have := HGK.out; omega
          case rel => exact ⟨0 + 1, rfl, by omega, by omega, ⟨H6⟩⟩
    · go_wp2
      go_loopg [48] q1.length (fun gk2 v48 wr' => ∃ j : Nat, v48 = .int .i64 j ∧ j ≤ q1.length ∧ q1.length - j ≤ gk2 ∧ Aside0 (Hp w wr' [(0, Asn.old w (fun _ => False)), (0, Asn.rd k33 A0 l0.length l0), (0, Asn.rd k50 A2 l2.length l2), (0, Asn.rd k58 A3 l3.length l3), (1, Asn.box g4 #[.int .i64 ts, .string x, .bool dl] 33), (2, Asn.box g5 #[.slice A2 l2.length c2, .slice A3 l3.length c3, .slice A4 n4 c4, .string f, .string lw, .int .i64 u, .int .i64 v] 46), (3, Asn.row k33 33 (.slice A7 l0.length c7) l0), (4, Asn.row k50 50 (.slice A8 l2.length c8) l2), (5, Buf (c9 * k33.sz) 33 A9), (6, Buf (c11 * k33.sz) 33 A11), (7, Buf (c12 * k33.sz) 33 A12), (8, Asn.box w10.heap.size #[.slice A9 r1.length c9, .slice A11 q1.length c11, .slice A12 q2.length c12] 22)]))
      case atStart => exact ⟨0, rfl, Nat.zero_le _, by omega, ⟨H5⟩⟩
      case round =>
        clear H5 d0 d1 d2
        obtain ⟨j, rfl, hjl, hgk2, HH⟩ := hrel
        have HGK2 := Aside0.mk hgk2
        clear hgk2
        by_cases hlt : j < q1.length
        · have hltz : (j : Int) < (q1.length : Int) := by omega
          rcases f11 with ⟨_, h2⟩ | ⟨g, rfl, hnc, hcm⟩
          · omega
          · obtain ⟨⟨⟨v0, hv⟩, hz⟩, HS⟩ := HH.out.buf_set 9 rfl rfl (j * 3) (by show j * 3 < c11 * 3; omega) (.int .i64 (-1))
            have HS2 := Aside0.mk HS
            have HNC := Aside0.mk (And.intro hnc hcm)
            have HLT := Aside0.mk hlt
            clear HH HS hnc hcm
            go_wp2
            go_roundg (q1.length - (j + 1))
            case measure => have := HGK2.out; omega
            case rel => exact ⟨j + 1, by first | rfl | (go_num; done) | exact nxb (by have := HLT.out; have := HNC.out; simp only [maxLen] at this; omega), by have := HLT.out; omega, by omega, HS2⟩
        · have hle : j = q1.length := by omega
          have hltz : ¬ (j : Int) < (q1.length : Int) := by omega
          have H6 := HH.out
          clear HH
          go_wp2
          go_roundg (3 - (1 + 1))
          case measure => have := HGK.out; omega
          case rel => exact ⟨1 + 1, rfl, by omega, by omega, ⟨H6⟩⟩
    · go_wp2
      go_loopg [48] q2.length (fun gk2 v48 wr' => ∃ j : Nat, v48 = .int .i64 j ∧ j ≤ q2.length ∧ q2.length - j ≤ gk2 ∧ Aside0 (Hp w wr' [(0, Asn.old w (fun _ => False)), (0, Asn.rd k33 A0 l0.length l0), (0, Asn.rd k50 A2 l2.length l2), (0, Asn.rd k58 A3 l3.length l3), (1, Asn.box g4 #[.int .i64 ts, .string x, .bool dl] 33), (2, Asn.box g5 #[.slice A2 l2.length c2, .slice A3 l3.length c3, .slice A4 n4 c4, .string f, .string lw, .int .i64 u, .int .i64 v] 46), (3, Asn.row k33 33 (.slice A7 l0.length c7) l0), (4, Asn.row k50 50 (.slice A8 l2.length c8) l2), (5, Buf (c9 * k33.sz) 33 A9), (6, Buf (c11 * k33.sz) 33 A11), (7, Buf (c12 * k33.sz) 33 A12), (8, Asn.box w10.heap.size #[.slice A9 r1.length c9, .slice A11 q1.length c11, .slice A12 q2.length c12] 22)]))
      case atStart => exact ⟨0, rfl, Nat.zero_le _, by omega, ⟨H5⟩⟩
      case round =>
        clear H5 d0 d1 d2
        obtain ⟨j, rfl, hjl, hgk2, HH⟩ := hrel
        have HGK2 := Aside0.mk hgk2
        clear hgk2
        by_cases hlt : j < q2.length
        · have hltz : (j : Int) < (q2.length : Int) := by omega
          rcases f12 with ⟨_, h2⟩ | ⟨g, rfl, hnc, hcm⟩
          · omega
          · obtain ⟨⟨⟨v0, hv⟩, hz⟩, HS⟩ := HH.out.buf_set 10 rfl rfl (j * 3) (by show j * 3 < c12 * 3; omega) (.int .i64 (-1))
            have HS2 := Aside0.mk HS
            have HNC := Aside0.mk (And.intro hnc hcm)
            have HLT := Aside0.mk hlt
            clear HH HS hnc hcm
            go_wp2
            go_roundg (q2.length - (j + 1))
            case measure => have := HGK2.out; omega
            case rel => exact ⟨j + 1, by first | rfl | (go_num; done) | exact nxb (by have := HLT.out; have := HNC.out; simp only [maxLen] at this; omega), by have := HLT.out; omega, by omega, HS2⟩
        · have hle : j = q2.length := by omega
          have hltz : ¬ (j : Int) < (q2.length : Int) := by omega
          have H6 := HH.out
          clear HH
          go_wp2
          go_roundg (3 - (2 + 1))
          case measure => have := HGK.out; omega
          case rel => exact ⟨2 + 1, rfl, by omega, by omega, ⟨H6⟩⟩
    · go_upto_region 13 with (first | (go_at_call 999; skip))
      have HD := H5.drew
      clear H5 d0 d1 d2
      refine start_ (n := 13) (S := fun w' => w'.cell? ⟨g5, 0, none⟩ = some (.slice A2 l2.length c2) ∧ w'.cell? ⟨g5, 1, none⟩ = some (.slice A3 l3.length c3) ∧ w'.cell? ⟨g5, 3, none⟩ = some (.string f) ∧ w'.cell? ⟨g5, 4, none⟩ = some (.string lw)) (ds := []) #[false, false, false, false, false, false, false, false, false, false, false, false, false] (by kernel_rfl) rfl rfl ⟨(HD.cell 5 rfl 0 (v := .slice A2 l2.length c2) rfl), (HD.cell 5 rfl 1 (v := .slice A3 l3.length c3) rfl), (HD.cell 5 rfl 3 (v := .string f) rfl), (HD.cell 5 rfl 4 (v := .string lw) rfl)⟩ (fun hHeld => ?_); refine with_tabW voB.tab13 voB.bits13 (fun HT_ HW_ => ?_)
      refine pure_ (i := 0) (N := some 57) (v := ?_) (a' := ?_) #[true, false, false, false, false, false, false, false, false, false, false, false, false] rfl rfl (any_of HT_.out (by kernel_rfl)) (fun _ _ _ h => h) (Or.inl ⟨by rfl, ?_⟩) ?_ ?_
      rotate_left
      · intro w'
        go_simp
        with_reducible rfl
      rotate_left
      · simp only [Act.put, List.setIfInBounds_toArray, List.set_cons_zero, List.set_cons_succ, i64_w, i32_w]
        rfl
      refine pure_ (i := 2) (N := some 59) (v := ?_) (a' := ?_) #[true, false, true, false, false, false, false, false, false, false, false, false, false] rfl rfl (any_of HT_.out (by kernel_rfl)) (fun _ _ _ h => h) (Or.inl ⟨by rfl, ?_⟩) ?_ ?_
      rotate_left
      · intro w'
        go_simp
        with_reducible rfl
      rotate_left
      · simp only [Act.put, List.setIfInBounds_toArray, List.set_cons_zero, List.set_cons_succ, i64_w, i32_w]
        rfl
      refine pure_ (i := 5) (N := some 62) (v := ?_) (a' := ?_) #[true, false, true, false, false, true, false, false, false, false, false, false, false] rfl rfl (any_of HT_.out (by kernel_rfl)) (fun _ _ _ h => h) (Or.inl ⟨by rfl, ?_⟩) ?_ ?_
      rotate_left
      · intro w'
        go_simp
        with_reducible rfl
      rotate_left
      · simp only [Act.put, List.setIfInBounds_toArray, List.set_cons_zero, List.set_cons_succ, i64_w, i32_w]
        rfl
      refine pure_ (i := 7) (N := some 64) (v := ?_) (a' := ?_) #[true, false, true, false, false, true, false, true, false, false, false, false, false] rfl rfl (any_of HT_.out (by kernel_rfl)) (fun _ _ _ h => h) (Or.inl ⟨by rfl, ?_⟩) ?_ ?_
      rotate_left
      · intro w'
        go_simp
        with_reducible rfl
      rotate_left
      · simp only [Act.put, List.setIfInBounds_toArray, List.set_cons_zero, List.set_cons_succ, i64_w, i32_w]
        rfl
      refine pure_ (i := 12) (N := some 69) (v := ?_) (a' := ?_) #[true, false, true, false, false, true, false, true, false, false, false, false, true] rfl rfl (any_of HT_.out (by kernel_rfl)) (fun _ _ _ h => h) (Or.inl ⟨by rfl, ?_⟩) ?_ ?_
      rotate_left
      · intro w'
        go_simp
        with_reducible rfl
      rotate_left
      · simp only [Act.put, List.setIfInBounds_toArray, List.set_cons_zero, List.set_cons_succ, i64_w, i32_w]
        rfl
      refine take_ (i := 1) (N := some 58) (v := ?_) (a' := ?_) #[true, true, true, false, false, true, false, true, false, false, false, false, true] rfl rfl (take_ofW HT_.out HW_.out (by kernel_rfl)) (fun _ _ _ h => h) (Or.inl ⟨by rfl, ?_⟩) hHeld ?_ ?_
      rotate_left
      · rintro w' ⟨s0, s1, s2, s3⟩
        go_simp
        with_reducible rfl
      rotate_left
      · simp only [Act.put, List.setIfInBounds_toArray, List.set_cons_zero, List.set_cons_succ, i64_w, i32_w]
        rfl
      refine take_ (i := 3) (N := some 60) (v := ?_) (a' := ?_) #[true, true, true, true, false, true, false, true, false, false, false, false, true] rfl rfl (take_ofW HT_.out HW_.out (by kernel_rfl)) (fun _ _ _ h => h) (Or.inl ⟨by rfl, ?_⟩) hHeld ?_ ?_
      rotate_left
      · rintro w' ⟨s0, s1, s2, s3⟩
        go_simp
        with_reducible rfl
      rotate_left
      · simp only [Act.put, List.setIfInBounds_toArray, List.set_cons_zero, List.set_cons_succ, i64_w, i32_w]
        rfl
      refine take_ (i := 6) (N := some 63) (v := ?_) (a' := ?_) #[true, true, true, true, false, true, true, true, false, false, false, false, true] rfl rfl (take_ofW HT_.out HW_.out (by kernel_rfl)) (fun _ _ _ h => h) (Or.inl ⟨by rfl, ?_⟩) hHeld ?_ ?_
      rotate_left
      · rintro w' ⟨s0, s1, s2, s3⟩
        go_simp
        with_reducible rfl
      rotate_left
      · simp only [Act.put, List.setIfInBounds_toArray, List.set_cons_zero, List.set_cons_succ, i64_w, i32_w]
        rfl
      refine take_ (i := 8) (N := some 65) (v := ?_) (a' := ?_) #[true, true, true, true, false, true, true, true, true, false, false, false, true] rfl rfl (take_ofW HT_.out HW_.out (by kernel_rfl)) (fun _ _ _ h => h) (Or.inl ⟨by rfl, ?_⟩) hHeld ?_ ?_
      rotate_left
      · rintro w' ⟨s0, s1, s2, s3⟩
        go_simp
        with_reducible rfl
      rotate_left
      · simp only [Act.put, List.setIfInBounds_toArray, List.set_cons_zero, List.set_cons_succ, i64_w, i32_w]
        rfl
      refine one_ (i := 4) (N := some 61) #[true, true, true, true, true, true, true, true, true, false, false, false, true] rfl rfl (one_of HT_.out (by kernel_rfl)) (by decide) (fun Kx_ hKx_ => ?_)
      refine goes_ Try.func25 (by kernel_rfl) rfl #[.slice A2 l2.length c2, .slice A3 l3.length c3] (by rfl) rfl rfl (by (try simp only [List.map_toArray, List.map_cons, List.map_nil]); first | done | rfl) ?_
      refine (HD.make 9 (TOV.out) (fun lab h => ⟨(Asn.rd k50 A2 _ _).mono (h.get (p := 2) rfl) (fun _ _ _ => trivial), (Asn.rd k58 A3 _ _).mono (h.get (p := 3) rfl) (fun _ _ _ => trivial)⟩)).mono ?_
      rintro e w13 ⟨q, rfl, H3'⟩
      obtain ⟨⟨A13, c13⟩, H3''⟩ := H3'.open_ 12 rfl
      obtain ⟨rfl, hc13⟩ := H3''.fact 12 rfl (fun S h => h.1)
      have HE := H3''.imp 12 (A' := Asn.row k50 50 (.slice A13 os.length c13) os) rfl (fun S h => h.2)
      clear H3' H3'' HD
      refine ⟨_, rfl, ?_⟩
      refine hKx_.out _ _ ⟨(HE.cell 5 rfl 0 (v := .slice A2 l2.length c2) rfl), (HE.cell 5 rfl 1 (v := .slice A3 l3.length c3) rfl), (HE.cell 5 rfl 3 (v := .string f) rfl), (HE.cell 5 rfl 4 (v := .string lw) rfl)⟩ (fun hHeld => ?_)
      clear hKx_ Kx_
      refine norm_ (a' := ?_) ?_ ?_
      rotate_left
      · show Act.put _ (some 61) _ = _
        simp only [Act.put, List.setIfInBounds_toArray, List.set_cons_zero, List.set_cons_succ, i64_w, i32_w]
        rfl
      refine one_ (i := 9) (N := some 66) #[true, true, true, true, true, true, true, true, true, true, false, false, true] rfl rfl (one_of HT_.out (by kernel_rfl)) (by decide) (fun Kx_ hKx_ => ?_)
      refine goes_ Try.func26 (by kernel_rfl) rfl #[.slice A2 l2.length c2, .agg #[.string f, .string lw]] (by rfl) rfl rfl (by (try simp only [List.map_toArray, List.map_cons, List.map_nil]); first | done | rfl) ?_
      refine (HE.make 10 (TSL.out) (fun lab h => (Asn.rd k50 A2 _ _).mono (h.get (p := 2) rfl) (fun _ _ _ => trivial))).mono ?_
      rintro e w14 ⟨q, rfl, H3'⟩
      obtain ⟨⟨A14, c14⟩, H3''⟩ := H3'.open_ 13 rfl
      obtain ⟨rfl, hc14⟩ := H3''.fact 13 rfl (fun S h => h.1)
      have HG := H3''.imp 13 (A' := Asn.row k50 50 (.slice A14 ss.length c14) ss) rfl (fun S h => h.2)
      clear H3' H3'' HE
      refine ⟨_, rfl, ?_⟩
      refine hKx_.out _ _ ⟨(HG.cell 5 rfl 0 (v := .slice A2 l2.length c2) rfl), (HG.cell 5 rfl 1 (v := .slice A3 l3.length c3) rfl), (HG.cell 5 rfl 3 (v := .string f) rfl), (HG.cell 5 rfl 4 (v := .string lw) rfl)⟩ (fun hHeld => ?_)
      clear hKx_ Kx_
      refine norm_ (a' := ?_) ?_ ?_
      rotate_left
      · show Act.put _ (some 66) _ = _
        simp only [Act.put, List.setIfInBounds_toArray, List.set_cons_zero, List.set_cons_succ, i64_w, i32_w]
        rfl
      refine one_ (i := 10) (N := some 67) #[true, true, true, true, true, true, true, true, true, true, true, false, true] rfl rfl (one_of HT_.out (by kernel_rfl)) (by decide) (fun Kx_ hKx_ => ?_)
      rw [if_pos (by rfl)]
      have HI := HG.box_new 11 #[.slice A13 os.length c13, .slice A14 ss.length c14] 40
      unfold Oper.wp
      go_simp
      refine hKx_.out _ _ ⟨(HI.cell 5 rfl 0 (v := .slice A2 l2.length c2) rfl), (HI.cell 5 rfl 1 (v := .slice A3 l3.length c3) rfl), (HI.cell 5 rfl 3 (v := .string f) rfl), (HI.cell 5 rfl 4 (v := .string lw) rfl)⟩ (fun hHeld => ?_)
      clear hKx_ Kx_
      refine pure_ (i := 11) (N := some 68) (v := ?_) (a' := ?_) #[true, true, true, true, true, true, true, true, true, true, true, true, true] rfl rfl (any_of HT_.out (by kernel_rfl)) (fun _ _ _ h => h) (Or.inl ⟨by rfl, ?_⟩) ?_ ?_
      rotate_left
      · intro w'
        go_simp
        with_reducible rfl
      rotate_left
      · simp only [Act.put, List.setIfInBounds_toArray, List.set_cons_zero, List.set_cons_succ, i64_w, i32_w]
        rfl
      refine done_ (done_of HT_.out (by kernel_rfl)) ?_
      clear HT_ HW_ hHeld
      obtain ⟨HJ, f13⟩ := HI.row_buf 12 rfl
      obtain ⟨HK, f14⟩ := HJ.row_buf 13 rfl
      have HL : Hp w _ [(0, Asn.old w (fun _ => False)), (0, Asn.rd k33 A0 l0.length l0), (0, Asn.rd k50 A2 l2.length l2), (0, Asn.rd k58 A3 l3.length l3), (1, Asn.box g4 #[.int .i64 ts, .string x, .bool dl] 33), (2, Asn.box g5 #[.slice A2 l2.length c2, .slice A3 l3.length c3, .slice A4 n4 c4, .string f, .string lw, .int .i64 u, .int .i64 v] 46), (3, Asn.row k33 33 (.slice A7 l0.length c7) l0), (4, Asn.row k50 50 (.slice A8 l2.length c8) l2), (9, Buf (c13 * k50.sz) 50 A13), (10, Buf (c14 * k50.sz) 50 A14), (11, Asn.box w14.heap.size #[.slice A13 os.length c13, .slice A14 ss.length c14] 40)] := HK.keep [0, 1, 2, 3, 4, 5, 6, 7, 12, 13, 14]
      clear HI HJ HK HG
      go_wp2
      go_loopg [69] 2 (fun gk v69 wr' => ∃ i : Nat, v69 = .int .i64 i ∧ i ≤ 2 ∧ 2 - i ≤ gk ∧ Aside0 (Hp w wr' [(0, Asn.old w (fun _ => False)), (0, Asn.rd k33 A0 l0.length l0), (0, Asn.rd k50 A2 l2.length l2), (0, Asn.rd k58 A3 l3.length l3), (1, Asn.box g4 #[.int .i64 ts, .string x, .bool dl] 33), (2, Asn.box g5 #[.slice A2 l2.length c2, .slice A3 l3.length c3, .slice A4 n4 c4, .string f, .string lw, .int .i64 u, .int .i64 v] 46), (3, Asn.row k33 33 (.slice A7 l0.length c7) l0), (4, Asn.row k50 50 (.slice A8 l2.length c8) l2), (9, Buf (c13 * k50.sz) 50 A13), (10, Buf (c14 * k50.sz) 50 A14), (11, Asn.box w14.heap.size #[.slice A13 os.length c13, .slice A14 ss.length c14] 40)]))
      case atStart => exact ⟨0, rfl, Nat.zero_le _, by omega, ⟨HL⟩⟩
      case round =>
        clear HL
        obtain ⟨i, rfl, hil, hgk, HH⟩ := hrel
        have HGK := Aside0.mk hgk
        have hi3 : i = 0 ∨ i = 1 ∨ i = 2 := by omega
        clear hgk hil
        have H5 := HH.out
        clear HH
        have d0 := H5.cell 10 rfl 0 (v := .slice A13 os.length c13) rfl
        have d1 := H5.cell 10 rfl 1 (v := .slice A14 ss.length c14) rfl
        rcases hi3 with rfl | rfl | rfl
        · go_wp2
          go_loopg [75] os.length (fun gk2 v75 wr' => ∃ j : Nat, v75 = .int .i64 j ∧ j ≤ os.length ∧ os.length - j ≤ gk2 ∧ Aside0 (Hp w wr' [(0, Asn.old w (fun _ => False)), (0, Asn.rd k33 A0 l0.length l0), (0, Asn.rd k50 A2 l2.length l2), (0, Asn.rd k58 A3 l3.length l3), (1, Asn.box g4 #[.int .i64 ts, .string x, .bool dl] 33), (2, Asn.box g5 #[.slice A2 l2.length c2, .slice A3 l3.length c3, .slice A4 n4 c4, .string f, .string lw, .int .i64 u, .int .i64 v] 46), (3, Asn.row k33 33 (.slice A7 l0.length c7) l0), (4, Asn.row k50 50 (.slice A8 l2.length c8) l2), (9, Buf (c13 * k50.sz) 50 A13), (10, Buf (c14 * k50.sz) 50 A14), (11, Asn.box w14.heap.size #[.slice A13 os.length c13, .slice A14 ss.length c14] 40)]))
          case atStart => exact ⟨0, rfl, Nat.zero_le _, by omega, ⟨H5⟩⟩
          case round =>
            clear H5 d0 d1
            obtain ⟨j, rfl, hjl, hgk2, HH⟩ := hrel
            have HGK2 := Aside0.mk hgk2
            clear hgk2
            by_cases hlt : j < os.length
            · have hltz : (j : Int) < (os.length : Int) := by omega
              rcases f13 with ⟨_, h2⟩ | ⟨g, rfl, hnc, hcm⟩
              · omega
              · obtain ⟨⟨⟨v0, hv⟩, hz⟩, HS⟩ := HH.out.buf_set 8 rfl rfl (j * 2) (by show j * 2 < c13 * 2; omega) (.string ⟨#[115, 112, 111, 105, 108, 116]⟩)
                have HS2 := Aside0.mk HS
                have HNC := Aside0.mk (And.intro hnc hcm)
                have HLT := Aside0.mk hlt
                clear HH HS hnc hcm
                go_wp2
                go_roundg (os.length - (j + 1))
                case measure => have := HGK2.out; omega
                case rel => exact ⟨j + 1, by first | rfl | (go_num; done) | exact nxb (by have := HLT.out; have := HNC.out; simp only [maxLen] at this; omega), by have := HLT.out; omega, by omega, HS2⟩
            · have hle : j = os.length := by omega
              have hltz : ¬ (j : Int) < (os.length : Int) := by omega
              have H6 := HH.out
              clear HH
              go_wp2
              go_roundg (2 - (0 + 1))
              case measure => have := HGK.out; omega
              case rel => exact ⟨0 + 1, rfl, by omega, by omega, ⟨H6⟩⟩
        · go_wp2
          go_loopg [75] ss.length (fun gk2 v75 wr' => ∃ j : Nat, v75 = .int .i64 j ∧ j ≤ ss.length ∧ ss.length - j ≤ gk2 ∧ Aside0 (Hp w wr' [(0, Asn.old w (fun _ => False)), (0, Asn.rd k33 A0 l0.length l0), (0, Asn.rd k50 A2 l2.length l2), (0, Asn.rd k58 A3 l3.length l3), (1, Asn.box g4 #[.int .i64 ts, .string x, .bool dl] 33), (2, Asn.box g5 #[.slice A2 l2.length c2, .slice A3 l3.length c3, .slice A4 n4 c4, .string f, .string lw, .int .i64 u, .int .i64 v] 46), (3, Asn.row k33 33 (.slice A7 l0.length c7) l0), (4, Asn.row k50 50 (.slice A8 l2.length c8) l2), (9, Buf (c13 * k50.sz) 50 A13), (10, Buf (c14 * k50.sz) 50 A14), (11, Asn.box w14.heap.size #[.slice A13 os.length c13, .slice A14 ss.length c14] 40)]))
          case atStart => exact ⟨0, rfl, Nat.zero_le _, by omega, ⟨H5⟩⟩
          case round =>
            clear H5 d0 d1
            obtain ⟨j, rfl, hjl, hgk2, HH⟩ := hrel
            have HGK2 := Aside0.mk hgk2
            clear hgk2
            by_cases hlt : j < ss.length
            · have hltz : (j : Int) < (ss.length : Int) := by omega
              rcases f14 with ⟨_, h2⟩ | ⟨g, rfl, hnc, hcm⟩
              · omega
              · obtain ⟨⟨⟨v0, hv⟩, hz⟩, HS⟩ := HH.out.buf_set 9 rfl rfl (j * 2) (by show j * 2 < c14 * 2; omega) (.string ⟨#[115, 112, 111, 105, 108, 116]⟩)
                have HS2 := Aside0.mk HS
                have HNC := Aside0.mk (And.intro hnc hcm)
                have HLT := Aside0.mk hlt
                clear HH HS hnc hcm
                go_wp2
                go_roundg (ss.length - (j + 1))
                case measure => have := HGK2.out; omega
                case rel => exact ⟨j + 1, by first | rfl | (go_num; done) | exact nxb (by have := HLT.out; have := HNC.out; simp only [maxLen] at this; omega), by have := HLT.out; omega, by omega, HS2⟩
            · have hle : j = ss.length := by omega
              have hltz : ¬ (j : Int) < (ss.length : Int) := by omega
              have H6 := HH.out
              clear HH
              go_wp2
              go_roundg (2 - (1 + 1))
              case measure => have := HGK.out; omega
              case rel => exact ⟨1 + 1, rfl, by omega, by omega, ⟨H6⟩⟩
        · go_wp2_with (first
            | (go_at_call 12; refine (cressetlaw15_live.calls kl true _ HKL.out).mono ?_; rintro e w20 ⟨rfl, hb⟩; have H6 := H5.same hb; clear hb H5 d0 d1)
            | (go_at_call 14; refine (cressetref15_Same.calls ks A0 c0 l0 A7 c7 l0 true _ (Kd.F_now (H6.fact 1 rfl (φ := Kd.F k33 _ (fun _ => True) A0 l0.length l0) (fun S h => Kd.F_mono h (fun _ _ => trivial)))) hc0 (H6.row_C 6 rfl).2.2 (H6.row_C 6 rfl).2.1 HKS.out).mono ?_; rintro e w21 ⟨rfl, ⟨nd, rfl⟩⟩; have H7 := H6.drewN nd; have x0 := H7.cell 5 rfl 0 (v := .slice A2 l2.length c2) rfl)
            | (go_at_call 27; refine (cressetref15_SamePairs.calls kt A2 c2 l2 A8 c8 l2 true _ (Kd.F_now (H7.fact 2 rfl (φ := Kd.F k50 _ (fun _ => True) A2 l2.length l2) (fun S h => Kd.F_mono h (fun _ _ => trivial)))) hc2 (H7.row_C 7 rfl).2.2 (H7.row_C 7 rfl).2.1 HKT.out).mono ?_; rintro e w22 ⟨rfl, ⟨nd2, rfl⟩⟩; have H8 := H6.drewN (nd + nd2); clear H7 x0))
          go_ret
          first
            | exact ⟨rfl, H8.below 0 rfl (fun _ h => h)⟩
            | exact ⟨rfl, by have hB := H8.below 0 rfl (fun _ h => h); simpa [World.drewN, Nat.add_comm, Nat.add_assoc] using hB⟩
            | exact ⟨rfl, by have hB := H8.below 0 rfl (fun _ h => h); exact hB⟩
theorem len_sum {α : Type} (f : α → Nat) (h : ∀ x, 1 ≤ f x) : ∀ l : List α, l.length ≤ (l.map f).sum
  | [] => Nat.le_refl _
  | x :: l => by
    have h1 := len_sum f h l
    have h2 := h x
    simp only [List.length_cons, List.map_cons, List.sum_cons]
    omega
theorem VersionOwn : cressetlaw15_VersionOwn.Pure := by
  intro A0 c0 l0 ts x dl A2 c2 l2 A3 c3 l3 A4 c4 l4 f lw u v w hr0 hc0 hr2 hc2 hr3 hc3 _ _ w0 _ _ w2 w3 _ _ _ _ _ hU
  have s0 := len_sum bulk33 (fun x => by unfold bulk33; omega) l0
  have s2 := len_sum bulk50 (fun x => by unfold bulk50; omega) l2
  have s3 := len_sum bulk58 (fun x => by unfold bulk58; omega) l3
  have k2 : ∀ p ∈ l2, p.f0.size ≤ maxLen := fun p hp => by
    have := (w2.2.2 p hp).1
    simp only [maxLen]
    omega
  have k3 : ∀ p ∈ l3, p.f0.size ≤ maxLen := fun p hp => by
    have := (w3.2.2 p hp).1
    simp only [maxLen]
    omega
  exact go A0 c0 l0 ts x dl A2 c2 l2 A3 c3 l3 A4 l4.length c4 f lw u v w hr0 hc0 hr2 hc2 hr3 hc3 (by omega) (by omega) (by omega) k2 k3
end Go.Proofs.Ytpakolohhoegfaa.Vo
namespace Go.Proofs.Ytpakolohhoegfaa.Pure
open Go.RowKit Go.Proofs.Ytpakolohhoegfaa.B

theorem VersionOwn : cressetlaw15_VersionOwn.Pure := Vo.VersionOwn
end Go.Proofs.Ytpakolohhoegfaa.Pure

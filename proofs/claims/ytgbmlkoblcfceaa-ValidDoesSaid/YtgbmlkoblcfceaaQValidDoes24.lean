/-
Of the row ValidDoes: printed walks and plain laws, merged (wip/claim2.py).
-/
import Derived.Test.YtgbmlkoblcfceaaQValidDoes9
import Derived.Test.YtgbmlkoblcfceaaQValidDoes20
set_option linter.unusedVariables false
set_option linter.unusedSimpArgs false
namespace Go.Proofs.Ytgbmlkoblcfceaa.Vd
open Go.RowKit Go.Shelf Go.Proofs.Ytgbmlkoblcfceaa.B Go.Proofs.YtgbmlkoblcfceaaW.PrintWords Go.Proofs.YtgbmlkoblcfceaaW.PrintLast Go.Proofs.YtgbmlkoblcfceaaW.PrintMore Go.Proofs.YtgbmlkoblcfceaaW.Mine Go.Proofs.YtgbmlkoblcfceaaW.Hp
theorem clone_share {w0 w : World} {L : List (Nat × Asn)} {i b : Nat} {s : V} (H : Hp w0 w L) (p : Nat) (hi : L[p]? = some (i, isV b s)) (hl : s.l.length < 4398046511104) :
    ∃ Av cv, vb b (.slice Av s.l.length cv) s.fl s.la w ∧ Calls Try.prog 38 #[.slice Av s.l.length cv] w fun e w' => ∃ A c, e = .returned (.slice A s.l.length c) ∧ s.l.length ≤ c ∧ Hp w0 w' (L ++ [(i, Asn.rd k67 A s.l.length s.l)]) := by
  obtain ⟨lab, hall⟩ := H.all
  obtain ⟨v, S, T, hd, hST, hbx, hrow⟩ := hall.get hi
  have hR := Kd.R_bound hrow
  obtain ⟨Av, cv, rfl, hcv, _⟩ := Kd.R_reads hrow
  refine ⟨Av, cv, hbx.1, ?_⟩
  refine (clone67 _ Av cv s.l w (row_M hR) (fun x hx => hx.2.2.1) hl).mono ?_
  rintro e w' ⟨v2, rfl, hR2, hb⟩
  obtain ⟨A2, c2, rfl, hc2, _⟩ := Kd.R_reads hR2
  refine ⟨A2, c2, rfl, hc2, H.share hall i hb (X := Asn.rd k67 A2 s.l.length s.l) (Kd.F_mono (Kd.N_F (Kd.R_N hR2)) (fun k hk => ?_))⟩
  rcases hk with hk | hk
  · exact .inl (hST k (.inr hk.1) hk.2.2.1)
  · exact .inr hk
theorem lone_snoc {m : Nat} {A : Asn} : ∀ {L : List (Nat × Asn)} (X : List (Nat × Asn)), noLab m L = true → noLab m X = true → Go.Proofs.YtgbmlkoblcfceaaW.Hp.lone m (L ++ (m, A) :: X) L.length = true
  | [], X, _, hX => hX
  | (j, B) :: L, X, h, hX => by
    simp only [noLab, Bool.and_eq_true] at h
    simp only [List.cons_append, List.length_cons, Go.Proofs.YtgbmlkoblcfceaaW.Hp.lone, Bool.and_eq_true]
    exact ⟨h.1, lone_snoc X h.2 hX⟩
set_option maxHeartbeats 4000000 in
set_option maxRecDepth 100000 in
theorem recent_hp {w0 w : World} {L : List (Nat × Asn)} {i b : Nat} {s : V} (H : Hp w0 w L) (p m : Nat) (hi : L[p]? = some (i, isV b s)) (hm : noLab m L = true) (hmi : i ≠ m) (hl : s.l.length < 4398046511104) :
    Calls Try.prog 20 #[.pointer (some ⟨b, 0, none⟩)] w fun e w' => ∃ g A c, e = .returned (.func (.func 39) #[] #[.pointer (some ⟨g, 0, none⟩)]) ∧ s.l.length ≤ c ∧ Hp w0 w' (L ++ [(m, Asn.box g #[.slice A s.l.length c] 59), (i, Asn.rd k67 A s.l.length s.l)]) := by
  have H1 := H.box_new m #[.slice none 0 0] 59
  have hp : p < L.length := (List.getElem?_eq_some_iff.1 hi).1
  obtain ⟨Av, cv, hv, hcl⟩ := clone_share H1 p (by rw [List.getElem?_append_left hp]; exact hi) hl
  have z0 := hv.c0
  have z1 := hv.c1
  have HCL := Aside0.mk hcl
  clear H H1 hv hcl hi
  go_enter Try.func20, Try.ntmps20
  go_wp2_with (first
    | (go_at_call 30; refine (none_calls b _ true z0).mono ?_; rintro e w' ⟨rfl, rfl⟩)
    | (go_at_call 38; refine HCL.out.mono ?_; rintro e w3 ⟨A2, c2, rfl, hc2, H3⟩; have u0 := H3.unfrozen L.length (i := m) (b := w.heap.size) (cs := #[.slice none 0 0]) (t := 59) (by simp) 0; have y0 := H3.cell L.length (i := m) (b := w.heap.size) (cs := #[.slice none 0 0]) (t := 59) (by simp) 0 rfl))
  go_ret
  refine ⟨w.heap.size, A2, c2, rfl, hc2, ?_⟩
  have h9 := H3.box_set (i := m) (b := w.heap.size) (cs := #[.slice none 0 0]) (t := 59) L.length (by simp) (by rw [List.append_assoc]; exact lone_snoc [(i, Asn.rd k67 A2 s.l.length s.l)] hm (by simp [noLab, hmi])) 0 (.slice A2 s.l.length c2)
  simpa using h9
set_option maxRecDepth 100000 in
set_option maxHeartbeats 4000000 in
theorem rec39_in (l b m : Nat) (A : Option Addr) (c : Nat) (cs : List S67) (hc : cs.length ≤ c) (hsm : ∀ x ∈ cs, x.f1.length < 8796093022208) (J Jx : Nat → World → Prop) (W : World)
    (hJ : ∀ i W, J i W → W.cell? ⟨b, 0, none⟩ = some (.slice A cs.length c) ∧ Kd.C k67 W A cs.length cs)
    (hJb : ∀ i W W', J i W → Below W.heap.size W W' → J i W')
    (hY : ∀ (i : Nat) (W0 W1 : World) (v : Value), i < cs.length → J i W0 → Below W0.heap.size W0 W1 → Kd.R Kd.string 9 W1 W0.heap.size (fun _ => True) v (rd_T67 cs (i : Int)).f1 → YieldAt Fence.wide m Try.prog l #[.int .i64 (rd_T67 cs (i : Int)).f0, v] W1 fun e W' => ∃ b5 : Bool, e = .returned (.bool b5) ∧ ((b5 = true ∧ J (i + 1) W') ∨ (b5 = false ∧ Jx i W')))
    (h0 : J 0 W) :
    CallsIn Fence.wide (m + 1) Try.prog 39 #[.func (.yield l) #[] #[], .pointer (some ⟨b, 0, none⟩)] W fun e W' => (∃ v, e = .returned v) ∧ (J cs.length W' ∨ ∃ i, i < cs.length ∧ Jx i W') := by
  refine callsIn_of_wp Try.func39 rfl trivial ?_ rfl
  simp only [Try.ntmps39, List.size_toArray, List.length_cons, List.length_nil, Nat.reduceAdd, Nat.reduceSub, Array.replicate_succ, Array.replicate_zero, List.push_toArray, List.append_toArray, List.nil_append, List.cons_append]
  obtain ⟨hcell, hC⟩ := hJ 0 W h0
  have hmx := Cmax hC
  have HJ := Aside0.mk hJ
  have HB := Aside0.mk hJb
  have HY := Aside0.mk hY
  have HS := Aside0.mk hsm
  clear hJ hJb hY hC hsm
  gi_wp2
  gi_loopw [7] (fun p wr => ∃ i : Nat, p = .int .i64 i ∧ i ≤ cs.length ∧ J i wr) (fun p _ => cs.length - (intOf p).toNat)
  case atStart => exact ⟨0, rfl, Nat.zero_le _, h0⟩
  case round =>
    clear h0 hcell
    obtain ⟨i, rfl, hil, hJi⟩ := hrel
    by_cases hlt : i < cs.length
    · have hltz : (i : Int) < (cs.length : Int) := by omega
      obtain ⟨ad, A1, c1, e1, x0, x1, l1, g1⟩ := at_T67 (HJ.out i wr hJi).2 (i : Int) (by omega) hltz
      cases e1
      have HX : Aside0 ((rd_T67 cs (i : Int)).f1.length < 8796093022208) := ⟨HS.out _ (Sl.getD_in _ (by simpa using hlt))⟩
      have HYi := Aside0.mk (HY.out i)
      rw [Int.toNat_natCast] at x0 x1
      generalize rd_T67 cs (i : Int) = x at x0 x1 l1 g1 HX HYi
      have HJi := Aside0.mk hJi
      have HG := Aside0.mk g1
      clear hJi g1
      gi_wp2
      obtain ⟨W3, hW3⟩ : ∃ W3, W3 = wr.alloc (.cells #[.int .i64 x.f0, .slice A1 x.f1.length c1] 67) := ⟨_, rfl⟩
      rw [← hW3]
      have g3 := World.alloc_heap_new wr (.cells #[.int .i64 x.f0, .slice A1 x.f1.length c1] 67)
      rw [← hW3] at g3
      have hB3 : Below wr.heap.size wr W3 := by rw [hW3]; exact al0 _ _
      have y0 : W3.cell? ⟨wr.heap.size, 0, none⟩ = some (.int .i64 x.f0) := by simp only [World.cell?, g3]; rfl
      have y1 : W3.cell? ⟨wr.heap.size, 1, none⟩ = some (.slice A1 x.f1.length c1) := by simp only [World.cell?, g3]; rfl
      have J3 := Aside0.mk (HB.out i _ _ HJi.out hB3)
      have G3 := Aside0.mk (Kd.C_below HG.out hB3)
      clear hW3 g3 x0 x1 HJi HG hB3
      have JD := Aside0.mk (HB.out i _ _ J3.out (below_drew (Below.refl _ _)))
      have hcon := slices_Clone_string_string.calls A1 c1 x.f1 x.f1 W3.drew (Kd.C_drew G3.out) l1 (if_pos HX.out)
      have HCON := Aside0.mk hcon
      clear hcon J3 G3
      rename_i K1 hK1 K2 hK2
      refine wpIn_mono (Q := fun e a w => match e with | .panic _ => False | .normal => K2 a w | _ => False) ?_ ?_
      rotate_left
      · rintro e a w0 h0
        cases e with
        | normal => exact h0
        | _ => exact h0.elim
      gi_region_with (first
        | (refine ⟨trivial, ?_⟩; gi_at_call 31; refine (callsIn_wide.2 HCON.out).mono ?_; rintro e w4 ⟨v4, rfl, hR4, hB4⟩; have y0b := bcc hB4 ((bcc (below_drew (Below.refl _ _)) y0)); have y1b := bcc hB4 ((bcc (below_drew (Below.refl _ _)) y1)); obtain ⟨fn, tmps, assign, body, hy, hRd⟩ := HYi.out _ w4 v4 hlt JD.out hB4 hR4)
        | (refine hRd.mono ?_; rintro e W5 ⟨b5, rfl, hE⟩))
      all_goals
        rcases hE with ⟨rfl, hJ5⟩ | ⟨rfl, hJ5⟩
        · refine hK2 _ _ ?_
          gi_wp2
          go_roundw
          case rel => exact ⟨i + 1, by go_num, by omega, hJ5⟩
          case measure => simp [intOf]; omega
        · refine hK2 _ _ ?_
          gi_wp2
          exact bodyPost_ret (results_none rfl _ _ _) rfl ⟨⟨_, rfl⟩, .inr ⟨i, hlt, hJ5⟩⟩
    · have hle : i = cs.length := by omega
      subst hle
      have hltz : ¬ (cs.length : Int) < (cs.length : Int) := by omega
      gi_wp2
      exact bodyPost_end (results_none rfl _ _ _) rfl ⟨⟨_, rfl⟩, .inl hJi⟩
end Go.Proofs.Ytgbmlkoblcfceaa.Vd

set_option linter.unusedVariables false
set_option linter.unusedSimpArgs false
namespace Go.Proofs.Ytgbmlkoblcfceaa.Vd
open Go.RowKit Go.Proofs.Ytgbmlkoblcfceaa.B Go.Proofs.YtgbmlkoblcfceaaW.PrintWords Go.Proofs.YtgbmlkoblcfceaaW.PrintLast Go.Proofs.YtgbmlkoblcfceaaW.PrintMore Go.Proofs.YtgbmlkoblcfceaaW.Mine Go.Proofs.YtgbmlkoblcfceaaW.Hp
theorem h_set {w w' : World} {lab : Nat → Nat} {L : List (Nat × Asn)} {i p : Nat} {A' : Asn} (h : All w lab L) (hn : Go.Proofs.YtgbmlkoblcfceaaW.Hp.lone i L p = true) (hA : A'.P w' (fun k => (if k < w.heap.size then lab k else i) = i)) (hb : Below w.heap.size w w') : All w' (fun k => if k < w.heap.size then lab k else i) (L.set p (i, A')) :=
  h.set hn hA (fun k hk _ => hb.block k hk) (fun k hk _ => if_pos hk) hb.size
theorem clone_both {w0 w : World} {L : List (Nat × Asn)} {i : Nat} {Av : Option Addr} {n cv : Nat} {l : List S67} (H : Hp w0 w L) (p : Nat) (hi : L[p]? = some (i, Asn.row k67 67 (.slice Av n cv) l)) (hn : Go.Proofs.YtgbmlkoblcfceaaW.Hp.lone i L p = true) (hl : l.length < 4398046511104) :
    Calls Try.prog 38 #[.slice Av n cv] w fun e w' => ∃ A c, e = .returned (.slice A l.length c) ∧ Hp w0 w' (L.set p (i, Asn.row k67 67 (.slice A l.length c) l) ++ [(i, Asn.rd k67 Av l.length l)]) := by
  obtain ⟨lab, hall⟩ := H.all
  have hR0 := hall.get hi
  have hR := Kd.R_bound hR0
  obtain ⟨hnl, hcap, _⟩ := H.row_C p hi
  subst hnl
  have hcon := clone67 _ Av cv l w (row_M hR) (fun x hx => hx.2.2.1) hl
  refine hcon.mono ?_
  rintro e w' ⟨v, rfl, hR2, hb⟩
  obtain ⟨A, c, rfl⟩ := Kd.R_slice hR2
  refine ⟨A, c, rfl, ?_⟩
  have hF : Kd.F k67 w' (fun k => lab k = i) Av l.length l := Kd.F_mono (Kd.F_step (Kd.F_bound (Kd.N_F (Kd.R_N hR0))) (fun k hk hlt => hb.block k hk.2)) (fun k hk => hk.1)
  refine ⟨hb.os.trans H.os, hb.tape.trans H.tape, hb.output.trans H.output, Nat.le_trans H.size hb.size, fun k => if k < w.heap.size then lab k else i, All.snoc (h_set hall hn ?_ hb) ?_⟩
  · exact Kd.R_mono hR2 (fun k hk => hk.elim (fun h => (if_pos h.2.2.1).trans h.1) (fun h => if_neg (by omega)))
  · exact Kd.F_mono (Kd.F_bound hF) (fun k hk => by
      show (if k < w.heap.size then lab k else i) = i
      by_cases hlt : k < w.heap.size
      · rw [if_pos hlt]; exact hk.1
      · rw [if_neg hlt])
set_option maxHeartbeats 8000000 in
set_option maxRecDepth 100000 in
theorem vclone_hp {w0 w : World} {X : Asn} {b : Nat} {s : V} {Y Z : Asn} (H : Hp w0 w [(0, Asn.old w0 (fun _ => False)), (0, X), (1, isV b s), (2, Y)]) (hl : s.l.length < 4398046511104) :
    Calls Try.prog 28 #[.pointer (some ⟨b, 0, none⟩)] w fun e w' => ∃ b' Av cv, e = .returned (.pointer (some ⟨b', 0, none⟩)) ∧ s.l.length ≤ cv ∧ Hp w0 w' [(0, Asn.old w0 (fun _ => False)), (0, X), (1, Asn.box b #[.bool true, .slice Av s.l.length cv, .int .i64 s.fl, .int .i64 s.la] 61), (2, Y), (4, isV b' s), (4, Asn.rd k67 Av s.l.length s.l)] := by
  obtain ⟨v, H1⟩ := H.open_ 2 rfl
  have H2 : Hp w0 w [(0, Asn.old w0 (fun _ => False)), (0, X), (1, Asn.box b #[.bool true, v, .int .i64 s.fl, .int .i64 s.la] 61), (2, Y), (4, Asn.row k67 67 v s.l)] := H1.split 2 4 rfl rfl (by decide)
  clear H H1
  obtain ⟨Av, cv, rfl⟩ := H2.fact 4 rfl (fun S h => Kd.R_slice h)
  have HCV := Aside0.mk (H2.row_C 4 rfl).2.1
  have z0 := H2.cell 2 rfl 0 (v := .bool true) rfl
  have z1 := H2.cell 2 rfl 1 (v := .slice Av s.l.length cv) rfl
  have z2 := H2.cell 2 rfl 2 (v := .int .i64 s.fl) rfl
  have z3 := H2.cell 2 rfl 3 (v := .int .i64 s.la) rfl
  go_enter Try.func28, Try.ntmps28
  go_wp2_with (first
    | (go_at_call 30; refine (none_calls b _ true z0).mono ?_; rintro e w' ⟨rfl, rfl⟩)
    | ((with_reducible refine gate_dst (N := 3) rfl ?_); refine Hp.at_box H2 9 ?hg (N := 3) ?hd (cs := #[.bool false, .slice none 0 0, .int .i64 0, .int .i64 0]) (t := 61) ?hr ?_; (case hd => rfl); (case hg => rfl); (case hr => first | (go_simp; done) | (go_simp; rfl)); intro g w1 H3; clear H2 z0 z1 z2 z3; have y0 := H3.cell 5 rfl 0 (v := .bool false) rfl; have y1 := H3.cell 5 rfl 1 (v := .slice none 0 0) rfl; have y2 := H3.cell 5 rfl 2 (v := .int .i64 0) rfl; have y3 := H3.cell 5 rfl 3 (v := .int .i64 0) rfl; have u0 := H3.unfrozen 5 rfl 0; have u1 := H3.unfrozen 5 rfl 1; have u2 := H3.unfrozen 5 rfl 2; have u3 := H3.unfrozen 5 rfl 3)
    | ((with_reducible refine gate_store (t := 61) (p := 3) rfl ?_); refine Hp.at_sets H3 5 rfl rfl ?hg (T := 61) (z := 3) (x := ?vo) ?ho ?hn 0 [.bool true, .slice Av s.l.length cv, .int .i64 s.fl, .int .i64 s.la] ?hr (cs' := #[.bool true, .slice Av s.l.length cv, .int .i64 s.fl, .int .i64 s.la]) ?hc ?_; (case ho => rfl); (case hg => rfl); (case hn => rfl); (case hr => first | (go_simp; done) | (go_simp; rfl)); (case hc => rfl); clear y0 y1 y2 y3 u0 u1 u2 u3; intro w4 H4; have z1 := H4.cell 2 rfl 1 (v := .slice Av s.l.length cv) rfl)
    | (go_at_call 38; refine (clone_both H4 4 rfl rfl hl).mono ?_; rintro e w5 ⟨A5, c5, rfl, H5⟩; clear H4 z1; have y1 := H5.cell 5 rfl 1 (v := .slice Av s.l.length cv) rfl; have u1 := H5.unfrozen 5 rfl 1))
  go_ret
  refine ⟨g, Av, cv, rfl, HCV.out, ?_⟩
  have H6 := H5.box_set 5 rfl rfl 1 (.slice A5 s.l.length c5)
  have H7 := H6.absorb 4 5 rfl rfl (by decide) rfl
  exact (H7.imp (A' := isV g s) 5 rfl (fun S h => ⟨_, h⟩)).keep [0, 1, 2, 3, 5, 6]
def kw : Kd Int where
  sz := 2
  E := []
  K := fun _ x cs => ∃ u, cs = [.int .i64 x, u] ∧ u.oneCell' = true
  M := fun _ _ _ x cs => ∃ u, cs = [.int .i64 x, u] ∧ u.oneCell' = true
  K_len := by
    rintro w x cs ⟨u, rfl, _⟩
    rfl
  K_one := by
    rintro w x cs ⟨u, rfl, h⟩ v hv
    rcases List.mem_cons.1 hv with rfl | hv
    · rfl
    · rw [List.mem_singleton.1 hv]; exact h
  K_below := fun _ h => h
  K_of_M := fun h => h
  M_mono := fun _ h => h
  M_bound := fun h => h
  M_move := fun _ h => h
  M_lower := fun _ h => h
set_option maxHeartbeats 2000000 in
set_option maxRecDepth 100000 in
theorem clonew (A0 : Option Addr) (c0 : Nat) (l0 : List Int) (w : World) (hr0 : ReadsRow (kw.K w) kw.sz w A0 l0.length l0) (hl : l0.length < 4398046511104) :
    Calls Try.prog 38 #[.slice A0 l0.length c0] w fun e w' => ∃ v0_ : Value, e = .returned v0_ ∧ kw.R 67 w' 0 (fun k => w.heap.size ≤ k) v0_ l0 ∧ Below w.heap.size w w' := by
  have HR0 := Aside0.mk hr0
  have LM1 := Aside0.mk hl
  clear hr0 hl
  have HB := Aside0.mk (Below.refl w.heap.size w)
  have hnil := fun (a : Option Addr) (m c : Nat) (W : World) => Go.Lib.run_eql_slice_nil (P := Try.prog) W 59 67 a m c 0 0 Try.underlying59
  cases A0 with
  | none =>
    have h0 : l0 = [] := by
      rcases Nat.eq_zero_or_pos l0.length with h0 | h0
      · exact List.eq_nil_of_length_eq_zero h0
      · obtain ⟨ad, e1, _⟩ := HR0.out.2.2 h0
        cases e1
    subst h0
    go_enter Try.func38, Try.ntmps38
    go_wp2
    go_ret
    exact ⟨_, rfl, Kd.R_nil _ _ _ _ _, HB.out⟩
  | some ad =>
    go_enter Try.func38, Try.ntmps38
    go_wp2_with (first
      | ((with_reducible refine gate_dst (N := 5) rfl ?_); (try (refine gate_guard (by rfl) ?_; dsimp only)); refine Kd.R_lit kw (w0 := w) 0 67 ?hg (N := 5) ?hd (xs := ([] : List Int)) (inner := []) (ok := fun k => w.heap.size ≤ k) (okp := fun _ => False) ?hr ?hp (fun _ hk => hk.elim) ?hz ((Hp.start w).old0) (Nat.zero_le _) (by simp) ?_; (case hd => rfl); (case hg => rfl); (case hr => first | (go_simp; done) | (go_simp; rfl)); (case hp => exact (Reps.none _ _)); (case hz => exact Nat.le_refl _); intro v1 w1 ho1 hb hg_ hnew_; have n0_ := Aside0.mk ho1; have n1_ := Aside0.mk ((Below.refl w.heap.size w).grown hg_ (Nat.le_refl _) (fun k hk => by cases hk)); have n2_ := Aside0.mk (show ∀ k, v1.ownBlock = some k → w.heap.size ≤ k from by obtain ⟨b, e1, e2⟩ := hnew_; intro k hk; rw [e1] at hk; injection hk with hk; omega); clear ho1 hb hg_ hnew_)
      | ((with_reducible refine gate_builtin (b := .append) (xs := #[.tmp 5, .tmp 6]) rfl ?_); at_builtin; refine Kd.R_append_rows kw (w0 := w1) 0 rfl (.tmp 5) (.tmp 6) 59 67 (.agg #[.int .i64 0, .slice none 0 0]) 32 rfl Try.underlying59 info67b rfl (by decide) (by omega) v1 [] l0 (some ad) l0.length c0 (fun k => w.heap.size ≤ k) (fun _ => False) rfl rfl n0_.out (HR0.out.imp_ n1_.out (fun _ _ hp => hp)) (fun _ _ h => h) (fun k hk => hk.elim) (fun k hk => Nat.le_trans n1_.out.size hk) ((Hp.start w1).old0) (Nat.zero_le _) (by have := LM1.out; simp only [List.length_nil]; omega) ?_; intro v2 w2 ho hb hg hat; rw [List.nil_append] at ho; have n3_ := Aside0.mk ho; have n4_ := Aside0.mk (n1_.out.grown hg n1_.out.size n2_.out); clear ho hb hg hat))
    go_ret
    exact ⟨_, by first | rfl | (simp; done), n3_.out, n4_.out⟩
theorem clone_read {w0 w : World} {L : List (Nat × Asn)} {i : Nat} {Av : Option Addr} {cv : Nat} {l : List S67} (H : Hp w0 w L) (p : Nat) (hi : L[p]? = some (i, Asn.rd k67 Av l.length l)) (k : Nat) (hk : k ≤ l.length) (hcv : l.length ≤ cv) (hl : l.length < 4398046511104) :
    Calls Try.prog 38 #[.slice (if cv = k then Av else Av.map (·.add (k * 2))) (l.length - k) (cv - k)] w fun e w' => ∃ A c, e = .returned (.slice A (l.length - k) c) ∧ Hp w0 w' L := by
  have hC : Kd.C k67 w Av l.length l := H.reads p hi
  have hR : ReadsRow (kw.K w) kw.sz w Av (l.map (·.f0)).length (l.map (·.f0)) := by
    obtain ⟨h1, h2, h3⟩ := hC
    refine ⟨rfl, by rw [List.length_map]; exact h2, fun hp => ?_⟩
    obtain ⟨ad, rfl, hcell⟩ := h3 (by rw [List.length_map] at hp; exact hp)
    refine ⟨ad, rfl, fun j p' hj => ?_⟩
    rw [List.getElem?_map] at hj
    obtain ⟨x, hx, rfl⟩ := Option.map_eq_some_iff.1 hj
    obtain ⟨cs, hl2, hK, hcc⟩ := hcell j x hx
    obtain ⟨A1, c1, rfl, _, _⟩ := k67_open hK
    exact ⟨_, hl2, ⟨_, rfl, rfl⟩, hcc⟩
  have hM := rows_drop hR (by rw [List.length_map]; exact hk) (by rw [List.length_map]; exact hcv : (l.map (·.f0)).length ≤ cv)
  have hcon := clonew _ (cv - k) ((l.map (·.f0)).drop k) w hM (by rw [List.length_drop, List.length_map]; omega)
  rw [List.length_drop, List.length_map] at hcon
  refine hcon.mono ?_
  rintro e w' ⟨v, rfl, hR2, hb⟩
  obtain ⟨A, c, rfl⟩ := Kd.R_slice hR2
  rw [List.length_drop, List.length_map]
  exact ⟨A, c, rfl, H.same hb⟩
theorem forget_box (b : Nat) (Av : Option Addr) (cv : Nat) (s : V) (hcv : s.l.length ≤ cv) (ts : Int) (hl : s.l.length < 4398046511104) : Tr Try.prog 23 #[.pointer (some ⟨b, 0, none⟩), .int .i64 ts] (Asn.rd k67 Av s.l.length s.l) (Asn.box b #[.bool true, .slice Av s.l.length cv, .int .i64 s.fl, .int .i64 s.la] 61) (fun _ => Asn.top) := by
  refine Tr.intro fun w U H => ?_
  by_cases h : ts ≤ s.fl
  · have z0 : w.cell? ⟨b, 0, none⟩ = some (.bool true) := H.cell 2 rfl 0 rfl
    have z2 : w.cell? ⟨b, 2, none⟩ = some (.int .i64 s.fl) := H.cell 2 rfl 2 rfl
    have d1 : decide (ts ≤ s.fl) = true := decide_eq_true h
    clear h
    go_enter Try.func23, Try.ntmps23
    go_wp2_with (go_at_call 30; refine (none_calls b w true z0).mono ?_; rintro e w' ⟨rfl, rfl⟩)
    go_ret
    exact ⟨_, rfl, (H.imp (A' := Asn.top) 2 rfl (fun _ _ => trivial)).keep [0, 2]⟩
  · have z0 : w.cell? ⟨b, 0, none⟩ = some (.bool true) := H.cell 2 rfl 0 rfl
    have z1 : w.cell? ⟨b, 1, none⟩ = some (.slice Av s.l.length cv) := H.cell 2 rfl 1 rfl
    have z2 : w.cell? ⟨b, 2, none⟩ = some (.int .i64 s.fl) := H.cell 2 rfl 2 rfl
    have u1 := H.unfrozen 2 rfl 1
    have u2 := H.unfrozen 2 rfl 2
    have hcap := hcv
    have hC := H.reads 1 rfl
    have d1 : decide (ts ≤ s.fl) = false := decide_eq_false h
    have HH := Aside0.mk H
    have HC := Aside0.mk hC
    clear h H hC
    go_enter Try.func23, Try.ntmps23
    go_wp2_with (go_at_call 30; refine (none_calls b w true z0).mono ?_; rintro e w' ⟨rfl, rfl⟩)
    go_loopg [5] s.l.length (fun gk v5 wr => ∃ k : Nat, v5 = .int .i64 k ∧ k ≤ s.l.length ∧ s.l.length - k ≤ gk ∧ wr = w ∧ Aside0 (∀ j : Nat, j < k → (rd_T67 s.l (j : Int)).f0 ≤ ts))
    case atStart => exact ⟨0, rfl, Nat.zero_le _, by omega, rfl, ⟨fun j hj => absurd hj (Nat.not_lt_zero _)⟩⟩
    case round =>
      obtain ⟨k, rfl, hkl, hgk, rfl, HI⟩ := hrel
      have hend : ∀ (hq : k = s.l.length ∨ ¬ (rd_T67 s.l (k : Int)).f0 ≤ ts), fgn ts s.l = k := fun hq => fgn_at hkl HI.out hq
      have HE := Aside0.mk hend
      clear hend
      by_cases hlt : k < s.l.length
      · have hltz : (k : Int) < (s.l.length : Int) := by omega
        obtain ⟨ad, A1, c1, e1, x0, x1, _, _⟩ := at_T67 HC.out (k : Int) (by omega) hltz
        cases e1
        rw [Int.toNat_natCast] at x0
        clear x1
        have HX : Aside0 (∀ j : Nat, j < k + 1 → (rd_T67 s.l (k : Int)).f0 ≤ ts → (rd_T67 s.l (j : Int)).f0 ≤ ts) := ⟨fun j hj hk => by
          by_cases e : j = k
          · subst e; exact hk
          · exact HI.out j (by omega)⟩
        generalize rd_T67 s.l (k : Int) = x at x0 HX HE
        by_cases hq : x.f0 ≤ ts
        · have d2 : decide (x.f0 ≤ ts) = true := decide_eq_true hq
          have HN : Aside0 (∀ j : Nat, j < k + 1 → (rd_T67 s.l (j : Int)).f0 ≤ ts) := ⟨fun j hj => HX.out j hj hq⟩
          have HGK := Aside0.mk hgk
          clear hq hgk
          go_wp2
          go_roundg (s.l.length - (k + 1))
          case measure => have := HGK.out; omega
          case rel => exact ⟨k + 1, by go_num, by omega, by omega, rfl, HN⟩
        · have d2 : decide (x.f0 ≤ ts) = false := decide_eq_false hq
          have he : fgn ts s.l = k := HE.out (.inr hq)
          obtain ⟨i0, hi0, _, hsz, _⟩ := info_parts info67b
          have hcut := cut_from (P := Try.prog) 59 67 .i64 Try.underlying59 hi0 2 hsz (some ad) s.l.length cv (k : Int) (by omega) (by omega)
          rw [Int.toNat_natCast] at hcut
          have hcl := clone_read HH.out 1 rfl k hkl hcap hl
          generalize (if cv = k then some ad else (some ad).map (·.add (k * 2))) = A' at hcut hcl
          have HCL := Aside0.mk hcl
          have HF := Aside0.mk he
          clear hq hcl he hi0 hsz HE HX
          go_wp2_with (go_at_call 38; refine HCL.out.mono ?_; rintro e w3 ⟨A3, c3, rfl, H3⟩; have t1 := H3.unfrozen 2 rfl 1; have t2 := H3.unfrozen 2 rfl 2; have t3 := H3.cell 2 rfl 1 (v := .slice (some ad) s.l.length cv) rfl; have t4 := H3.cell 2 rfl 2 (v := .int .i64 s.fl) rfl)
          go_ret
          refine ⟨_, rfl, ?_⟩
          exact (((H3.box_set 2 rfl rfl 1 (.slice A3 (s.l.length - k) c3)).box_set 2 rfl rfl 2 (.int .i64 ts)).imp (A' := Asn.top) 2 rfl (fun _ _ => trivial)).keep [0, 2]
      · have he : k = s.l.length := by omega
        have hltz : ¬ (k : Int) < (s.l.length : Int) := by omega
        have hf : fgn ts s.l = k := HE.out (.inl he)
        obtain ⟨i0, hi0, _, hsz, _⟩ := info_parts info67b
        have hcut := cut_from (P := Try.prog) 59 67 .i64 Try.underlying59 hi0 2 hsz Av s.l.length cv (k : Int) (by omega) (by omega)
        rw [Int.toNat_natCast] at hcut
        have hcl := clone_read HH.out 1 rfl k hkl hcap hl
        generalize (if cv = k then Av else Av.map (·.add (k * 2))) = A' at hcut hcl
        have HCL := Aside0.mk hcl
        have HF := Aside0.mk hf
        clear hcl hf he hi0 hsz HE
        go_wp2_with (go_at_call 38; refine HCL.out.mono ?_; rintro e w3 ⟨A3, c3, rfl, H3⟩; have t1 := H3.unfrozen 2 rfl 1; have t2 := H3.unfrozen 2 rfl 2; have t3 := H3.cell 2 rfl 1 (v := .slice Av s.l.length cv) rfl; have t4 := H3.cell 2 rfl 2 (v := .int .i64 s.fl) rfl)
        go_ret
        refine ⟨_, rfl, ?_⟩
        exact (((H3.box_set 2 rfl rfl 1 (.slice A3 (s.l.length - k) c3)).box_set 2 rfl rfl 2 (.int .i64 ts)).imp (A' := Asn.top) 2 rfl (fun _ _ => trivial)).keep [0, 2]
end Go.Proofs.Ytgbmlkoblcfceaa.Vd

/-
Of the row ValidOwn: printed walks and plain laws, merged (wip/claim2.py).
-/
import Derived.Test.YtgbmlkoblcfceaaQValidOwn18
import Derived.Test.YtgbmlkoblcfceaaQValidOwn19
set_option linter.unusedVariables false
set_option linter.unusedSimpArgs false
namespace Go.Proofs.Ytgbmlkoblcfceaa.Vd
open Go.RowKit Go.Shelf Go.Proofs.Ytgbmlkoblcfceaa.B Go.Proofs.YtgbmlkoblcfceaaW.PrintWords Go.Proofs.YtgbmlkoblcfceaaW.PrintLast Go.Proofs.YtgbmlkoblcfceaaW.PrintMore Go.Proofs.YtgbmlkoblcfceaaW.Mine Go.Proofs.YtgbmlkoblcfceaaW.Hp
theorem clone_share {w0 w : World} {L : List (Nat × Asn)} {i b : Nat} {s : V} (H : Hp w0 w L) (p : Nat) (hi : L[p]? = some (i, isV b s)) (hl : s.l.length < 4398046511104) :
    ∃ Av cv, vb b (.slice Av s.l.length cv) s.fl s.la w ∧ Calls Try.prog 38 #[.slice Av s.l.length cv] w fun e w' => ∃ A c, e = .returned (.slice A s.l.length c) ∧ s.l.length ≤ c ∧ Hp w0 w' (L ++ [(i, Asn.rd k67 A s.l.length s.l)]) := by
  obtain ⟨lab, hall⟩ := H.all
  obtain ⟨v, S, T, hd, hST, hbx, hrow⟩ := hall.get hi
  have hR := Kd.R_bound hrow
  obtain ⟨Av, cv, rfl, hcv, _⟩ := Kd.R_reads hrow
  refine ⟨Av, cv, hbx.1, ?_⟩
  refine (clone67 _ Av cv s.l w (row_M hR) (fun x hx => hx.2.2.1) hl).mono ?_
  rintro e w' ⟨v2, rfl, hR2, hb⟩
  obtain ⟨A2, c2, rfl, hc2, _⟩ := Kd.R_reads hR2
  refine ⟨A2, c2, rfl, hc2, H.share hall i hb (X := Asn.rd k67 A2 s.l.length s.l) (Kd.F_mono (Kd.N_F (Kd.R_N hR2)) (fun k hk => ?_))⟩
  rcases hk with hk | hk
  · exact .inl (hST k (.inr hk.1) hk.2.2.1)
  · exact .inr hk
theorem lone_snoc {m : Nat} {A : Asn} : ∀ {L : List (Nat × Asn)} (X : List (Nat × Asn)), noLab m L = true → noLab m X = true → Go.Proofs.YtgbmlkoblcfceaaW.Hp.lone m (L ++ (m, A) :: X) L.length = true
  | [], X, _, hX => hX
  | (j, B) :: L, X, h, hX => by
    simp only [noLab, Bool.and_eq_true] at h
    simp only [List.cons_append, List.length_cons, Go.Proofs.YtgbmlkoblcfceaaW.Hp.lone, Bool.and_eq_true]
    exact ⟨h.1, lone_snoc X h.2 hX⟩
set_option maxHeartbeats 4000000 in
set_option maxRecDepth 100000 in
theorem recent_hp {w0 w : World} {L : List (Nat × Asn)} {i b : Nat} {s : V} (H : Hp w0 w L) (p m : Nat) (hi : L[p]? = some (i, isV b s)) (hm : noLab m L = true) (hmi : i ≠ m) (hl : s.l.length < 4398046511104) :
    Calls Try.prog 20 #[.pointer (some ⟨b, 0, none⟩)] w fun e w' => ∃ g A c, e = .returned (.func (.func 39) #[] #[.pointer (some ⟨g, 0, none⟩)]) ∧ s.l.length ≤ c ∧ Hp w0 w' (L ++ [(m, Asn.box g #[.slice A s.l.length c] 59), (i, Asn.rd k67 A s.l.length s.l)]) := by
  have H1 := H.box_new m #[.slice none 0 0] 59
  have hp : p < L.length := (List.getElem?_eq_some_iff.1 hi).1
  obtain ⟨Av, cv, hv, hcl⟩ := clone_share H1 p (by rw [List.getElem?_append_left hp]; exact hi) hl
  have z0 := hv.c0
  have z1 := hv.c1
  have HCL := Aside0.mk hcl
  clear H H1 hv hcl hi
  go_enter Try.func20, Try.ntmps20
  go_wp2_with (first
    | (go_at_call 30; refine (none_calls b _ true z0).mono ?_; rintro e w' ⟨rfl, rfl⟩)
    | (go_at_call 38; refine HCL.out.mono ?_; rintro e w3 ⟨A2, c2, rfl, hc2, H3⟩; have u0 := H3.unfrozen L.length (i := m) (b := w.heap.size) (cs := #[.slice none 0 0]) (t := 59) (by simp) 0; have y0 := H3.cell L.length (i := m) (b := w.heap.size) (cs := #[.slice none 0 0]) (t := 59) (by simp) 0 rfl))
  go_ret
  refine ⟨w.heap.size, A2, c2, rfl, hc2, ?_⟩
  have h9 := H3.box_set (i := m) (b := w.heap.size) (cs := #[.slice none 0 0]) (t := 59) L.length (by simp) (by rw [List.append_assoc]; exact lone_snoc [(i, Asn.rd k67 A2 s.l.length s.l)] hm (by simp [noLab, hmi])) 0 (.slice A2 s.l.length c2)
  simpa using h9
set_option maxRecDepth 100000 in
set_option maxHeartbeats 4000000 in
theorem rec39_in (l b m : Nat) (A : Option Addr) (c : Nat) (cs : List S67) (hc : cs.length ≤ c) (hsm : ∀ x ∈ cs, x.f1.length < 8796093022208) (J Jx : Nat → World → Prop) (W : World)
    (hJ : ∀ i W, J i W → W.cell? ⟨b, 0, none⟩ = some (.slice A cs.length c) ∧ Kd.C k67 W A cs.length cs)
    (hJb : ∀ i W W', J i W → Below W.heap.size W W' → J i W')
    (hY : ∀ (i : Nat) (W0 W1 : World) (v : Value), i < cs.length → J i W0 → Below W0.heap.size W0 W1 → Kd.R Kd.string 9 W1 W0.heap.size (fun _ => True) v (rd_T67 cs (i : Int)).f1 → YieldAt Fence.wide m Try.prog l #[.int .i64 (rd_T67 cs (i : Int)).f0, v] W1 fun e W' => ∃ b5 : Bool, e = .returned (.bool b5) ∧ ((b5 = true ∧ J (i + 1) W') ∨ (b5 = false ∧ Jx i W')))
    (h0 : J 0 W) :
    CallsIn Fence.wide (m + 1) Try.prog 39 #[.func (.yield l) #[] #[], .pointer (some ⟨b, 0, none⟩)] W fun e W' => (∃ v, e = .returned v) ∧ (J cs.length W' ∨ ∃ i, i < cs.length ∧ Jx i W') := by
  refine callsIn_of_wp Try.func39 rfl trivial ?_ rfl
  simp only [Try.ntmps39, List.size_toArray, List.length_cons, List.length_nil, Nat.reduceAdd, Nat.reduceSub, Array.replicate_succ, Array.replicate_zero, List.push_toArray, List.append_toArray, List.nil_append, List.cons_append]
  obtain ⟨hcell, hC⟩ := hJ 0 W h0
  have hmx := Cmax hC
  have HJ := Aside0.mk hJ
  have HB := Aside0.mk hJb
  have HY := Aside0.mk hY
  have HS := Aside0.mk hsm
  clear hJ hJb hY hC hsm
  gi_wp2
  gi_loopw [7] (fun p wr => ∃ i : Nat, p = .int .i64 i ∧ i ≤ cs.length ∧ J i wr) (fun p _ => cs.length - (intOf p).toNat)
  case atStart => exact ⟨0, rfl, Nat.zero_le _, h0⟩
  case round =>
    clear h0 hcell
    obtain ⟨i, rfl, hil, hJi⟩ := hrel
    by_cases hlt : i < cs.length
    · have hltz : (i : Int) < (cs.length : Int) := by omega
      obtain ⟨ad, A1, c1, e1, x0, x1, l1, g1⟩ := at_T67 (HJ.out i wr hJi).2 (i : Int) (by omega) hltz
      cases e1
      have HX : Aside0 ((rd_T67 cs (i : Int)).f1.length < 8796093022208) := ⟨HS.out _ (Sl.getD_in _ (by simpa using hlt))⟩
      have HYi := Aside0.mk (HY.out i)
      rw [Int.toNat_natCast] at x0 x1
      generalize rd_T67 cs (i : Int) = x at x0 x1 l1 g1 HX HYi
      have HJi := Aside0.mk hJi
      have HG := Aside0.mk g1
      clear hJi g1
      gi_wp2
      obtain ⟨W3, hW3⟩ : ∃ W3, W3 = wr.alloc (.cells #[.int .i64 x.f0, .slice A1 x.f1.length c1] 67) := ⟨_, rfl⟩
      rw [← hW3]
      have g3 := World.alloc_heap_new wr (.cells #[.int .i64 x.f0, .slice A1 x.f1.length c1] 67)
      rw [← hW3] at g3
      have hB3 : Below wr.heap.size wr W3 := by rw [hW3]; exact al0 _ _
      have y0 : W3.cell? ⟨wr.heap.size, 0, none⟩ = some (.int .i64 x.f0) := by simp only [World.cell?, g3]; rfl
      have y1 : W3.cell? ⟨wr.heap.size, 1, none⟩ = some (.slice A1 x.f1.length c1) := by simp only [World.cell?, g3]; rfl
      have J3 := Aside0.mk (HB.out i _ _ HJi.out hB3)
      have G3 := Aside0.mk (Kd.C_below HG.out hB3)
      clear hW3 g3 x0 x1 HJi HG hB3
      have JD := Aside0.mk (HB.out i _ _ J3.out (below_drew (Below.refl _ _)))
      have hcon := slices_Clone_string_string.calls A1 c1 x.f1 x.f1 W3.drew (Kd.C_drew G3.out) l1 (if_pos HX.out)
      have HCON := Aside0.mk hcon
      clear hcon J3 G3
      rename_i K1 hK1 K2 hK2
      refine wpIn_mono (Q := fun e a w => match e with | .panic _ => False | .normal => K2 a w | _ => False) ?_ ?_
      rotate_left
      · rintro e a w0 h0
        cases e with
        | normal => exact h0
        | _ => exact h0.elim
      gi_region_with (first
        | (refine ⟨trivial, ?_⟩; gi_at_call 31; refine (callsIn_wide.2 HCON.out).mono ?_; rintro e w4 ⟨v4, rfl, hR4, hB4⟩; have y0b := bcc hB4 ((bcc (below_drew (Below.refl _ _)) y0)); have y1b := bcc hB4 ((bcc (below_drew (Below.refl _ _)) y1)); obtain ⟨fn, tmps, assign, body, hy, hRd⟩ := HYi.out _ w4 v4 hlt JD.out hB4 hR4)
        | (refine hRd.mono ?_; rintro e W5 ⟨b5, rfl, hE⟩))
      all_goals
        rcases hE with ⟨rfl, hJ5⟩ | ⟨rfl, hJ5⟩
        · refine hK2 _ _ ?_
          gi_wp2
          go_roundw
          case rel => exact ⟨i + 1, by go_num, by omega, hJ5⟩
          case measure => simp [intOf]; omega
        · refine hK2 _ _ ?_
          gi_wp2
          exact bodyPost_ret (results_none rfl _ _ _) rfl ⟨⟨_, rfl⟩, .inr ⟨i, hlt, hJ5⟩⟩
    · have hle : i = cs.length := by omega
      subst hle
      have hltz : ¬ (cs.length : Int) < (cs.length : Int) := by omega
      gi_wp2
      exact bodyPost_end (results_none rfl _ _ _) rfl ⟨⟨_, rfl⟩, .inl hJi⟩
end Go.Proofs.Ytgbmlkoblcfceaa.Vd

/-
Of the row ValidDoes: printed walks and plain laws, merged (wip/claim2.py).
-/
import Derived.Test.YtgbmlkoblcfceaaQValidDoes5
import Derived.Test.YtgbmlkoblcfceaaQValidDoes9
import Derived.Test.YtgbmlkoblcfceaaQValidDoes12
import Derived.Test.YtgbmlkoblcfceaaQValidDoes22
import Derived.Test.YtgbmlkoblcfceaaQValidDoes23
import Derived.Test.YtgbmlkoblcfceaaQValidDoes24
set_option linter.unusedVariables false
set_option linter.unusedSimpArgs false
namespace Go.Proofs.Ytgbmlkoblcfceaa.Vd
open Go.RowKit Go.Shelf Go.Proofs.Ytgbmlkoblcfceaa.B Go.Proofs.YtgbmlkoblcfceaaW.PrintWords Go.Proofs.YtgbmlkoblcfceaaW.PrintLast Go.Proofs.YtgbmlkoblcfceaaW.PrintMore Go.Proofs.YtgbmlkoblcfceaaW.Mine Go.Proofs.YtgbmlkoblcfceaaW.Hp
theorem obj_new {w0 w : World} {L : List (Nat × Asn)} (H : Hp w0 w L) (m : Nat) (o : Obj) : Hp w0 (w.alloc o) (L ++ [(m, Asn.obj w.heap.size o)]) :=
  H.new m (al0 w o) ⟨World.alloc_heap_new w o, Nat.le_refl _⟩
attribute [local go_sem] Oper.semAt_some
def spoilt : ByteArray := { data := #[115, 112, 111, 105, 108, 116] }
theorem addV_own (keys : List ByteArray) : addV ⟨[], 0, 0⟩ 3 ([] ++ keys) = (0, ⟨[⟨3, keysOf keys⟩], 0, 3⟩) := by
  unfold addV
  rw [if_neg (by show ¬ ((3 : Int) ≤ 0 ∨ (3 : Int) ≤ 0 ∨ (1099511627776 : Int) < 3); omega), if_neg (by show ¬ 4096 ≤ 0; omega)]
  rfl
set_option maxHeartbeats 16000000 in
set_option maxRecDepth 100000 in
theorem own_go (w : World) (A : Option Addr) (c : Nat) (keys : List ByteArray) (hC : Kd.C Kd.string w A keys.length keys) (hc : keys.length ≤ c) (hl : keys.length * 16 ≤ 140737488351232) :
    Calls Try.prog 6 #[.slice A keys.length c] w fun e w' => e = .returned (.bool true) ∧ Below w.heap.size w w' := by
  have HS := Aside0.mk ((Hp.start w).came Kd.heap_string 0 rfl hC)
  have HL := Aside0.mk hl
  have HD := Aside0.mk (addV_own keys)
  have hmx : keys.length ≤ 9223372036854775807 := by omega
  clear hC hl
  refine (callsIn_wide (n := 3)).1 (callsIn_of_wp_marks Try.func6 rfl trivial ?_ rfl)
  rw [wpIn_wide]
  simp only [Try.ntmps6, List.size_toArray, List.length_cons, List.length_nil, Nat.reduceAdd, Nat.reduceSub, Array.replicate_succ, Array.replicate_zero, List.push_toArray, List.append_toArray, List.nil_append, List.cons_append]
  go_wp2_with (first
    | ((with_reducible refine gate_dst (N := 1) rfl ?_); refine Hp.at_box HS.out 1 ?hg (N := 1) ?hd (cs := #[.slice A keys.length c]) (t := 23) ?hr ?_; (case hd => rfl); (case hg => rfl); (case hr => first | (go_simp; done) | (go_simp; rfl)); intro g1 w1 H1)
    | ((with_reducible refine gate_dst (N := 2) rfl ?_); refine Hp.at_box H1 2 ?hg (N := 2) ?hd (cs := #[.bool false]) (t := 4) ?hr ?_; (case hd => rfl); (case hg => rfl); (case hr => first | (go_simp; done) | (go_simp; rfl)); intro g2 w2 H2; clear H1)
    | (go_at_call 13; refine (newV H2 5 rfl).mono ?_; rintro e w3 ⟨b, rfl, H3⟩; clear H2; have y1 := H3.cell 2 rfl 0 (v := .slice A keys.length c) rfl)
    | ((with_reducible refine gate_dst (N := 12) rfl ?_); refine Hp.at_lit Kd.string H3 4 9 ?hg (N := 12) ?hd (xs := ([] : List ByteArray)) (inner := []) ?hr ?hp (by simp) ?_; (case hd => rfl); (case hg => rfl); (case hr => first | (go_simp; done) | (go_simp; rfl)); (case hp => exact fun _ => Reps.none _ _); intro A4 c4 w4 hc4 H4; clear H3 y1; have y1 := H4.cell 2 rfl 0 (v := .slice A keys.length c) rfl)
    | ((with_reducible refine gate_builtin (b := .append) (xs := #[.tmp 12, .tmp 13]) rfl ?_); at_builtin; refine Hp.at_append_rows Kd.string H4 5 rfl (.tmp 12) (.tmp 13) 23 9 (.string ⟨#[]⟩) 16 rfl Try.underlying23 info9b rfl (by decide) (by omega) _ [] keys A keys.length c rfl rfl ?hs ?hx (H4.reads 1 rfl) (fun _ _ h => h) (by have := HL.out; show (0 + keys.length) * 16 ≤ _; omega) ?_; (case hs => rfl); (case hx => rfl); intro v5 w5 H5; obtain ⟨A5, c5, rfl⟩ := H5.fact 5 rfl (fun _ h => Kd.R_slice h); have hcc5 := (H5.row_C 5 rfl).2.1; clear H4 y1)
    | (go_at_call 14; refine (H5.call (add_tr b ⟨[], 0, 0⟩ 3 A5 c5 ([] ++ keys) hcc5 (by have := HL.out; simp; omega)) 4 rfl rfl (fun lab h => (Asn.rd Kd.string A5 _ ([] ++ keys)).mono (row_rd (h.get (p := 5) rfl)) (fun k _ hk => by omega))).mono ?_; rintro e w6 ⟨r6, rfl, H6⟩; rw [HD.out] at H6; obtain rfl := H6.fact 4 rfl (fun _ h => h.1); have H7 := H6.imp (A' := isV b ⟨[⟨3, keysOf keys⟩], 0, 3⟩) 4 rfl (fun _ h => h.2); clear H5 H6)
    | (go_at_call 11; refine (live_calls _).mono ?_; rintro e w8 ⟨rfl, hb8⟩; have H8 := H7.same hb8; clear H7 hb8))
  have HG := Aside0.mk (show keys.length < 8796093022208 by have := HL.out; omega)
  go_loopg [29] keys.length (fun gk v29 wr => ∃ (i : Nat) (ys : List ByteArray), v29 = .int .i64 i ∧ i ≤ keys.length ∧ keys.length - i ≤ gk ∧ ys.length = keys.length ∧ Aside0 (Hp w wr [(0, Asn.old w (fun _ => False)), (0, Asn.rd Kd.string A keys.length keys), (1, Asn.box g1 #[.slice A keys.length c] 23), (2, Asn.box g2 #[.bool false] 4), (5, isV b ⟨[⟨3, keysOf keys⟩], 0, 3⟩), (4, Asn.row Kd.string 9 (.slice A5 keys.length c5) ys)]))
  case atStart => exact ⟨0, [] ++ keys, rfl, Nat.zero_le _, by omega, rfl, ⟨H8⟩⟩
  case round =>
    clear H8
    obtain ⟨i, ys, rfl, hil, hgk, hyl, HO⟩ := hrel
    by_cases hlt : i < keys.length
    · have hltz : (i : Int) < (keys.length : Int) := by omega
      obtain ⟨q, cap, he, _, _, _⟩ := HO.out.fact 5 rfl (fun _ h => Kd.R_form h (by omega))
      injection he with he1 he2 he3
      subst he1
      rw [← hyl] at HO
      obtain ⟨x0, u0⟩ := HO.out.fact 5 rfl (fun _ h => Kd.R_cell (enc := Value.string) (h1 := fun _ => rfl) ByteArray.empty h (i : Int) (by omega) (by omega))
      rw [Int.toNat_natCast] at x0 u0
      generalize rdOf ByteArray.empty ys (i : Int) = Z at x0
      have HO2 : Aside0 (Hp w (wr.setCell ⟨q, i, none⟩ (.string spoilt)) [(0, Asn.old w (fun _ => False)), (0, Asn.rd Kd.string A keys.length keys), (1, Asn.box g1 #[.slice A keys.length c] 23), (2, Asn.box g2 #[.bool false] 4), (5, isV b ⟨[⟨3, keysOf keys⟩], 0, 3⟩), (4, Asn.row Kd.string 9 (.slice (some ⟨q, 0, none⟩) keys.length c5) (ys.set i spoilt))]) := ⟨by
        have h1 := HO.out.row_set (enc := Value.string) (h1 := fun _ => rfl) 5 rfl rfl (i : Int) spoilt
        rw [hyl] at h1
        exact h1⟩
      have HY : Aside0 ((ys.set i spoilt).length = keys.length) := ⟨by rw [List.length_set]; exact hyl⟩
      have HGK := Aside0.mk hgk
      clear HO he2 he3 hyl hgk
      go_wp2
      go_roundg (keys.length - (i + 1))
      case measure => have := HGK.out; omega
      case rel => exact ⟨i + 1, ys.set i spoilt, by go_num, by omega, by omega, HY.out, HO2⟩
    · have hle : i = keys.length := by omega
      have hltz : ¬ (i : Int) < (keys.length : Int) := by omega
      have H9 := HO.out.keep [0, 1, 2, 3, 4]
      clear HO hle
      go_wp2_with (go_at_call 20; refine (recent_hp H9 4 6 rfl rfl (by decide) (by show 1 < 4398046511104; decide)).mono ?_; rintro e w10 ⟨g6, A6, c6, rfl, hc6, H10⟩; clear H9)
      have hsm : ∀ x ∈ [(⟨3, keysOf keys⟩ : S67)], x.f1.length < 8796093022208 := by
        intro x hx
        rw [List.mem_singleton.1 hx]
        have e1 := Cp.cpt_len (Srt.srt keys)
        rw [srt_len] at e1
        exact Nat.lt_of_le_of_lt e1 HG.out
      refine wpIn_wide.1 (rf_walk (n := 3) (by omega) (gf := 39) (lb := #[.pointer (some ⟨g6, 0, none⟩)]) rfl (enters_of Try.func39 (by kernel_rfl) rfl) ?_)
      intro rec hYield
      have H12 := obj_new (obj_new H10 7 (.deferred (some []))) 8 (.loop (rec .ready none))
      rw [World.size_alloc] at H12
      clear H10
      refine (rec39_in (w10.heap.size + 1) g6 1 A6 c6 [⟨3, keysOf keys⟩] hc6 hsm (fun _ W => Hp w W [(0, Asn.old w (fun _ => False)), (0, Asn.rd Kd.string A keys.length keys), (1, Asn.box g1 #[.slice A keys.length c] 23), (2, Asn.box g2 #[.bool false] 4), (5, isV b ⟨[⟨3, keysOf keys⟩], 0, 3⟩), (6, Asn.box g6 #[.slice A6 1 c6] 59), (5, Asn.rd k67 A6 1 [⟨3, keysOf keys⟩]), (7, Asn.obj w10.heap.size (.deferred (some []))), (8, Asn.obj (w10.heap.size + 1) (.loop (rec .ready none)))]) (fun _ _ => False) _ (fun _ _ H => ⟨H.cell 5 rfl 0 rfl, H.reads 6 rfl⟩) (fun _ _ _ H hb => H.same hb) ?_ H12).mono ?_
      · intro i0 W0 W1 v hi0 HJ hB hR
        have H13 := HJ.made 9 hB hR
        generalize (rd_T67 [(⟨3, keysOf keys⟩ : S67)] (i0 : Int)).f1 = ks at H13 hR
        generalize (rd_T67 [(⟨3, keysOf keys⟩ : S67)] (i0 : Int)).f0 = t0
        obtain ⟨Av, cv, rfl⟩ := Kd.R_slice hR
        clear hR HJ hB H12
        refine hYield #[.int .i64 t0, .slice Av ks.length cv] W1 _ _ rfl (H13.obj_at 8 rfl) (fun K hK => by gi_wp2; exact hK) ?_
        have H14 := H13.put_obj 8 rfl rfl (.loop { rec .ready none with state := .busy })
        have hkm : ks.length ≤ 9223372036854775807 := (H14.row_C 9 rfl).2.2.2.1
        clear H13 hYield
        gi_wp2
        gi_loopw [42] (fun p wr => ∃ (j : Nat) (ys : List ByteArray), p = .int .i64 j ∧ j ≤ ks.length ∧ ys.length = ks.length ∧ Aside0 (Hp w wr [(0, Asn.old w (fun _ => False)), (0, Asn.rd Kd.string A keys.length keys), (1, Asn.box g1 #[.slice A keys.length c] 23), (2, Asn.box g2 #[.bool false] 4), (5, isV b ⟨[⟨3, keysOf keys⟩], 0, 3⟩), (6, Asn.box g6 #[.slice A6 1 c6] 59), (5, Asn.rd k67 A6 1 [⟨3, keysOf keys⟩]), (7, Asn.obj w10.heap.size (.deferred (some []))), (8, Asn.obj (w10.heap.size + 1) (.loop { rec .ready none with state := .busy })), (9, Asn.row Kd.string 9 (.slice Av ks.length cv) ys)])) (fun p _ => ks.length - (intOf p).toNat)
        case atStart => exact ⟨0, ks, rfl, Nat.zero_le _, rfl, ⟨H14⟩⟩
        case round =>
          clear H14
          obtain ⟨j, ys, rfl, hjl, hyl, HO⟩ := hrel
          by_cases hlt2 : j < ks.length
          · have hjz : (j : Int) < (ks.length : Int) := by omega
            obtain ⟨q, cap, he, _, _, _⟩ := HO.out.fact 9 rfl (fun _ h => Kd.R_form h (by omega))
            injection he with he1 he2 he3
            subst he1
            rw [← hyl] at HO
            obtain ⟨x0, u0⟩ := HO.out.fact 9 rfl (fun _ h => Kd.R_cell (enc := Value.string) (h1 := fun _ => rfl) ByteArray.empty h (j : Int) (by omega) (by omega))
            rw [Int.toNat_natCast] at x0 u0
            generalize rdOf ByteArray.empty ys (j : Int) = Z at x0
            have HO2 : Aside0 (Hp w (wr.setCell ⟨q, j, none⟩ (.string spoilt)) [(0, Asn.old w (fun _ => False)), (0, Asn.rd Kd.string A keys.length keys), (1, Asn.box g1 #[.slice A keys.length c] 23), (2, Asn.box g2 #[.bool false] 4), (5, isV b ⟨[⟨3, keysOf keys⟩], 0, 3⟩), (6, Asn.box g6 #[.slice A6 1 c6] 59), (5, Asn.rd k67 A6 1 [⟨3, keysOf keys⟩]), (7, Asn.obj w10.heap.size (.deferred (some []))), (8, Asn.obj (w10.heap.size + 1) (.loop { rec .ready none with state := .busy })), (9, Asn.row Kd.string 9 (.slice (some ⟨q, 0, none⟩) ks.length cv) (ys.set j spoilt))]) := ⟨by
              have h1 := HO.out.row_set (enc := Value.string) (h1 := fun _ => rfl) 9 rfl rfl (j : Int) spoilt
              rw [hyl] at h1
              exact h1⟩
            have HY : Aside0 ((ys.set j spoilt).length = ks.length) := ⟨by rw [List.length_set]; exact hyl⟩
            clear HO he2 he3 hyl
            gi_wp2
            go_roundw
            case rel => exact ⟨j + 1, ys.set j spoilt, by go_num, by omega, HY.out, HO2⟩
            case measure => simp [intOf]; omega
          · have hjz : ¬ (j : Int) < (ks.length : Int) := by omega
            clear hyl
            gi_wp2
            exact ⟨HO.out.obj_at 8 rfl, rfl, (HO.out.put_obj 8 rfl rfl (.loop (rec .ready none))).keep [0, 1, 2, 3, 4, 5, 6, 7, 8]⟩
      · rintro e W2 ⟨hv, (H13 | ⟨i0, _, hf⟩)⟩
        · refine ⟨hv, .inl ⟨H13.obj_at 8 rfl, fun o' => ?_⟩⟩
          have H14 := (H13.put_obj 8 rfl rfl o').keep [0, 1, 2, 3, 4, 7]
          go_wp2_with (go_at_call 20; refine (recent_hp H14 4 6 rfl rfl (by decide) (by show 1 < 4398046511104; decide)).mono ?_; rintro e w20 ⟨g7, A7, c7, rfl, hc7, H20⟩; clear H14)
          obtain ⟨kk, hkk⟩ := (Ky.keys_ev keys HG.out).rounds
          obtain ⟨ks2, hks2⟩ := (Ky.same_ev (keysOf keys) (by have h9 : (keysOf keys).length < 8796093022208 := hsm _ (List.mem_singleton.2 rfl); omega)).rounds
          have HKK := Aside0.mk hkk
          have HK2 := Aside0.mk hks2
          clear hkk hks2 hv H13 hYield
          refine wpIn_wide.1 (rf_walk (n := 3) (by omega) (gf := 39) (lb := #[.pointer (some ⟨g7, 0, none⟩)]) rfl (enters_of Try.func39 (by kernel_rfl) rfl) ?_)
          intro rec2 hYield
          have H22 := obj_new (obj_new H20 10 (.deferred (some []))) 11 (.loop (rec2 .ready none))
          rw [World.size_alloc] at H22
          clear H20
          refine (rec39_in (w20.heap.size + 1) g7 1 A7 c7 [⟨3, keysOf keys⟩] hc7 hsm (fun _ W => Hp w W [(0, Asn.old w (fun _ => False)), (0, Asn.rd Kd.string A keys.length keys), (1, Asn.box g1 #[.slice A keys.length c] 23), (2, Asn.box g2 #[.bool false] 4), (5, isV b ⟨[⟨3, keysOf keys⟩], 0, 3⟩), (7, Asn.obj w10.heap.size (.deferred (some []))), (6, Asn.box g7 #[.slice A7 1 c7] 59), (5, Asn.rd k67 A7 1 [⟨3, keysOf keys⟩]), (10, Asn.obj w20.heap.size (.deferred (some []))), (11, Asn.obj (w20.heap.size + 1) (.loop (rec2 .ready none)))]) (fun _ _ => False) _ (fun _ _ H => ⟨H.cell 6 rfl 0 rfl, H.reads 7 rfl⟩) (fun _ _ _ H hb => H.same hb) ?_ H22).mono ?_
          · intro i0 W0 W1 v hi0 HJ hB hR
            have H23 := HJ.made 12 hB hR
            obtain rfl : i0 = 0 := by simp at hi0; exact hi0
            rw [show (rd_T67 [(⟨3, keysOf keys⟩ : S67)] ((0 : Nat) : Int)).f1 = keysOf keys from rfl] at H23 hR
            obtain ⟨Av, cv, rfl⟩ := Kd.R_slice hR
            clear hR HJ hB H22
            refine hYield #[.int .i64 (rd_T67 [(⟨3, keysOf keys⟩ : S67)] ((0 : Nat) : Int)).f0, .slice Av (keysOf keys).length cv] W1 _ _ rfl (H23.obj_at 9 rfl) (fun K hK => by gi_wp2; exact hK) ?_
            have H24 := H23.put_obj 9 rfl rfl (.loop { rec2 .ready none with state := .busy })
            have y1 := H24.cell 2 rfl 0 (v := .slice A keys.length c) rfl
            obtain ⟨_, hcv, hCv⟩ := H24.row_C 10 rfl
            have HCV := Aside0.mk hCv
            clear H23 hYield hCv
            generalize (rd_T67 [(⟨3, keysOf keys⟩ : S67)] ((0 : Nat) : Int)).f0 = t0
            gi_wp2_with (first
              | (refine ⟨trivial, ?_⟩; gi_at_call 21; refine (CallsIn.inRound _ (callsIn_wide.2 (cressetref23_Keys.calls kk A c keys (keysOf keys) _ (H24.reads 1 rfl) hc HKK.out))).mono ?_; rintro e w25 ⟨v25, rfl, hR25, hb25⟩; have H25 := (H24.same hb25); have HC25 := Kd.C_below HCV.out hb25; obtain ⟨A25, c25, rfl, hc25, hC25⟩ := Kd.R_reads hR25; clear hb25 hR25)
              | (refine ⟨trivial, ?_⟩; gi_at_call 17; refine (CallsIn.inRound _ (callsIn_wide.2 (cressetref23_Same.calls ks2 Av cv (keysOf keys) A25 c25 (keysOf keys) true _ HC25 hcv hC25 hc25 HK2.out))).mono ?_; rintro e w26 ⟨rfl, ⟨nd, rfl⟩⟩))
            exact ⟨(H25.drewN nd).obj_at 9 rfl, true, rfl, .inl ⟨rfl, ((H25.drewN nd).put_obj 9 rfl rfl (.loop (rec2 .ready none))).keep [0, 1, 2, 3, 4, 5, 6, 7, 8, 9]⟩⟩
          · rintro e W2 ⟨hv, (H23 | ⟨i0, _, hf⟩)⟩
            · refine ⟨hv, .inl ⟨H23.obj_at 9 rfl, fun o' => ?_⟩⟩
              have H24 := (H23.put_obj 9 rfl rfl o').keep [0, 3, 5, 8]
              have y2 := H24.cell 1 rfl 0 (v := .bool false) rfl
              have u2 := H24.unfrozen 1 rfl 0
              have H25 := H24.box_set 1 rfl rfl 0 (.bool true)
              have H26 := H25.put_obj 3 rfl rfl (.deferred none)
              have H27 := H26.put_obj 2 rfl rfl (.deferred none)
              have hc := H27.cell 1 rfl 0 (v := .bool true) rfl
              have hd2 := H25.obj_at 3 rfl
              have hd1 := H26.obj_at 2 rfl
              clear H24 H25 H26
              go_wp2
              refine ⟨by simp, .inl ⟨_, _, rfl, run_takeDeferred hd2, ?_⟩⟩
              refine ⟨by simp, .inl ⟨_, _, rfl, run_takeDeferred hd1, ?_⟩⟩
              refine ⟨.bool true, ?_, rfl, H27.below 0 rfl (fun _ h => h)⟩
              simp [results, Try.f6, go_sem, hc]
            · exact hf.elim
        · exact hf.elim
theorem ValidOwn : cressetlaw23_ValidOwn.Pure := by
  intro A c keys w hC hc h0
  exact own_go w A c keys hC hc h0.2.1
end Go.Proofs.Ytgbmlkoblcfceaa.Vd

set_option linter.unusedVariables false
set_option linter.unusedSimpArgs false
namespace Go.Proofs.Ytgbmlkoblcfceaa.Vd
open Go.RowKit Go.Proofs.Ytgbmlkoblcfceaa.B Go.Proofs.YtgbmlkoblcfceaaW.PrintWords Go.Proofs.YtgbmlkoblcfceaaW.PrintLast Go.Proofs.YtgbmlkoblcfceaaW.PrintMore Go.Proofs.YtgbmlkoblcfceaaW.Mine Go.Proofs.YtgbmlkoblcfceaaW.Hp
theorem filter_drop (ts : Int) : ∀ {l : List S67}, l.Pairwise (fun x y => x.f0 < y.f0) → l.filter (fun x => decide (ts < x.f0)) = l.drop (fgn ts l)
  | [], _ => rfl
  | x :: l, h => by
    rw [List.pairwise_cons] at h
    unfold fgn
    by_cases hx : x.f0 ≤ ts
    · rw [List.filter_cons_of_neg (by simpa using hx), List.takeWhile_cons_of_pos (by simpa using hx)]
      exact filter_drop ts h.2
    · rw [List.filter_cons_of_pos (by simp; omega), List.takeWhile_cons_of_neg (by simpa using hx), List.length_nil, List.drop_zero, List.filter_eq_self.2 (fun y hy => by have := h.1 y hy; simp; omega)]
theorem raw_79 {w0 w : World} {L : List (Nat × Asn)} {i j : Nat} {ps : List (S79 × List Value)} {A : Option Addr} {n c : Nat} (H : Hp w0 w L) (p q : Nat) (hi : L[p]? = some (i, Asn.row (kRaw k79.sz) 79 (.slice A n c) (ps.map Prod.snd))) (hj : L[q]? = some (j, Asn.els k79 ps)) (k : Nat) (y : S79 × List Value) (hk : ps[k]? = some y) :
    ∃ ad A1 c1, A = some ad ∧ w.cell? (ad.add (k * 2)) = some (.int .i64 y.1.f0) ∧ w.cell? ⟨(ad.add (k * 2)).block, (ad.add (k * 2)).off + 1, none⟩ = some (.slice A1 y.1.f1.length c1) ∧ y.2 = [.int .i64 y.1.f0, .slice A1 y.1.f1.length c1] := by
  obtain ⟨A1, c1, hy⟩ := H.fact q hj (φ := ∃ A1 c1, y.2 = [.int .i64 y.1.f0, .slice A1 y.1.f1.length c1]) (fun S h => by
    obtain ⟨v1, e1, hR⟩ := k79_openM (h y (List.mem_of_getElem? hk))
    obtain ⟨A1, c1, rfl⟩ := Kd.R_slice hR
    exact ⟨A1, c1, e1⟩)
  obtain ⟨_, _, hC⟩ := H.row_C p hi
  have hlt : k < ps.length := (List.getElem?_eq_some_iff.1 hk).1
  obtain ⟨ad, rfl, hcell⟩ := hC.2.2 (by rw [List.length_map]; omega)
  obtain ⟨cs, h1, h2, h3⟩ := hcell k y.2 (by rw [List.getElem?_map, hk]; rfl)
  have e2 : cs = y.2 := h2.1
  subst e2
  rw [hy] at h3
  have a0 := h3 0 _ rfl
  have a1 : w.cell? ⟨(ad.add (k * 2)).block, (ad.add (k * 2)).off + 1, none⟩ = some (.slice A1 y.1.f1.length c1) := by rw [← add_field _ _ 1 (by omega)]; exact h3 1 _ rfl
  exact ⟨ad, A1, c1, rfl, a0, a1, hy⟩
theorem shutW4 {w0 w : World} {U : Nat → Prop} {X : Asn} {b : Nat} {v : Value} {s : V} {r : Value} {ls : List S79} (H : Hp w0 w [(0, Asn.old w0 U), (0, X), (1, Asn.box b #[v, .int .i64 s.la, .int .i64 s.fl] 77), (4, Asn.row k79 79 v ls)]) (e : ls = s.l.map to79) : Hp w0 w [(0, Asn.old w0 U), (1, Asn.and (Asn.lift (r = r)) (isW b s))] := by
  subst e
  exact ((H.join 2 3 rfl rfl (by decide) rfl rfl).imp 2 (A' := Asn.and (Asn.lift (r = r)) (isW b s)) rfl (fun S h => ⟨rfl, _, h⟩)).keep [0, 2]
def kept (ts : Int) (ps : List (S79 × List Value)) : List (S79 × List Value) := ps.filter (fun p => decide (ts < p.1.f0))
theorem kept_succ {ts : Int} {ps : List (S79 × List Value)} {k : Nat} {y : S79 × List Value} (hk : ps[k]? = some y) : kept ts (ps.take (k + 1)) = if ts < y.1.f0 then kept ts (ps.take k) ++ [y] else kept ts (ps.take k) := by
  obtain ⟨hlt, e⟩ := List.getElem?_eq_some_iff.1 hk
  unfold kept
  rw [List.take_succ_eq_append_getElem hlt, e, List.filter_append]
  by_cases h : ts < y.1.f0
  · rw [if_pos h, List.filter_cons_of_pos (by simpa using h)]; rfl
  · rw [if_neg h, List.filter_cons_of_neg (by simpa using h), List.filter_nil, List.append_nil]
theorem kept_all {ts : Int} {ps : List (S79 × List Value)} {l : List S67} (h : ps.map Prod.fst = l.map to79) (hp : l.Pairwise (fun x y => x.f0 < y.f0)) : (kept ts ps).map Prod.fst = (l.drop (fgn ts l)).map to79 := by
  have e1 : (kept ts ps).map Prod.fst = (ps.map Prod.fst).filter (fun x => decide (ts < x.f0)) := by
    unfold kept
    rw [List.filter_map]
    rfl
  rw [e1, h, List.filter_map, ← filter_drop ts hp]
  rfl
set_option maxHeartbeats 8000000 in
set_option maxRecDepth 100000 in
theorem rforget_go (b : Nat) (s : V) (ts : Int) (h : ¬ ts ≤ s.fl) (hl : s.l.length ≤ 4096) (hp : s.l.Pairwise (fun x y => x.f0 < y.f0)) : Tr Try.prog 27 #[.pointer (some ⟨b, 0, none⟩), .int .i64 ts] Asn.top (isW b s) (fun r => Asn.and (Asn.lift (r = .int .i64 (fgn ts s.l))) (isW b ⟨s.l.drop (fgn ts s.l), ts, s.la⟩)) := by
  refine Tr.intro fun w U H0 => ?_
  obtain ⟨v, H1⟩ := H0.open_ 2 rfl
  have H2 : Hp w w [(0, Asn.old w U), (0, Asn.top), (1, Asn.box b #[v, .int .i64 s.la, .int .i64 s.fl] 77), (2, Asn.row k79 79 v (s.l.map to79))] := H1.split 2 2 rfl rfl (by decide)
  clear H0 H1
  obtain ⟨Av, cv, rfl⟩ := H2.fact 3 rfl (fun S h => Kd.R_slice h)
  obtain ⟨ps, hps, H3⟩ := H2.raw_open 3 3 rfl rfl (by decide)
  have hlen : (s.l.map to79).length = ps.length := by rw [← hps, List.length_map]
  rw [hlen] at H3
  have hpl : ps.length ≤ 4096 := by rw [← hlen, List.length_map]; exact hl
  have H : Hp w w [(0, Asn.old w U), (0, Asn.top), (1, Asn.box b #[.slice Av ps.length cv, .int .i64 s.la, .int .i64 s.fl] 77), (2, Asn.row (kRaw k79.sz) 79 (.slice Av ps.length cv) (ps.map Prod.snd)), (3, Asn.els k79 ps)] := by
    rw [hlen] at H2
    exact H3
  have z2 : w.cell? ⟨b, 2, none⟩ = some (.int .i64 s.fl) := H.cell 2 rfl 2 rfl
  have u2 := H.unfrozen 2 rfl 2
  have d1 : decide (ts ≤ s.fl) = false := decide_eq_false h
  have HJ : Aside0 (Hp w (w.setCell ⟨b, 2, none⟩ (.int .i64 ts)) [(0, Asn.old w U), (0, Asn.top), (1, Asn.box b #[.slice Av ps.length cv, .int .i64 s.la, .int .i64 ts] 77), (2, Asn.row (kRaw k79.sz) 79 (.slice Av ps.length cv) (ps.map Prod.snd)), (3, Asn.els k79 ps), (4, Asn.row (kRaw k79.sz) 79 (.slice none 0 0) [])]) := ⟨(H.box_set 2 rfl rfl 2 (.int .i64 ts)).free 4 (Kd.R_nil _ _ _ _ _)⟩
  have HPS := Aside0.mk hps
  have HL := Aside0.mk hpl
  have HP := Aside0.mk hp
  have HLN := Aside0.mk (show s.l.length = ps.length by rw [← hlen, List.length_map])
  clear h hl hp H H2 H3 hps hlen hpl
  go_enter Try.func27, Try.ntmps27
  go_wp2
  go_loopw [5, 6, 7] (fun v5 v6 v7 wr => ∃ (k : Nat) (A5 : Option Addr) (c5 : Nat), v7 = .int .i64 k ∧ k ≤ ps.length ∧ v6 = .int .i64 ((k : Int) - ((kept ts (ps.take k)).length : Int)) ∧ (kept ts (ps.take k)).length ≤ k ∧ v5 = .slice A5 (kept ts (ps.take k)).length c5 ∧ Aside0 (Hp w wr [(0, Asn.old w U), (0, Asn.top), (1, Asn.box b #[.slice Av ps.length cv, .int .i64 s.la, .int .i64 ts] 77), (2, Asn.row (kRaw k79.sz) 79 (.slice Av ps.length cv) (ps.map Prod.snd)), (3, Asn.els k79 ps), (4, Asn.row (kRaw k79.sz) 79 (.slice A5 (kept ts (ps.take k)).length c5) ((kept ts (ps.take k)).map Prod.snd))])) (fun _ _ v7 _ => ps.length - (intOf v7).toNat)
  case atStart => exact ⟨0, none, 0, rfl, Nat.zero_le _, rfl, Nat.zero_le _, rfl, HJ⟩
  case round =>
    clear HJ z2 u2
    obtain ⟨k, A5, c5, rfl, hkl, rfl, hqk, rfl, HO⟩ := hrel
    have z0 : wr.cell? ⟨b, 0, none⟩ = some (.slice Av ps.length cv) := HO.out.cell 2 rfl 0 rfl
    have hlm := HL.out
    by_cases hlt : k < ps.length
    · have hltz : (k : Int) < (ps.length : Int) := by omega
      obtain ⟨y, hy⟩ : ∃ y, ps[k]? = some y := ⟨_, List.getElem?_eq_getElem hlt⟩
      obtain ⟨ad, A1, c1, e1, x0, x1, hy2⟩ := raw_79 HO.out 3 4 rfl rfl k y hy
      cases e1
      have hks := kept_succ (ts := ts) hy
      have p1 := eq_true (show (0 : Int) ≤ (k : Int) by omega)
      have p2 := eq_true hltz
      by_cases hts : ts < y.1.f0
      · rw [if_pos hts] at hks
        have d2 : decide (ts < y.1.f0) = true := decide_eq_true hts
        have HKS := Aside0.mk hks
        have HQK := Aside0.mk hqk
        have HY2 := Aside0.mk hy2
        clear hks hts hy hqk hy2
        generalize kept ts (ps.take k) = qs at HO HKS HQK
        go_wp2_with (first
          | ((with_reducible refine gate_builtin (b := .append) (xs := #[.tmp 37, .tmp 45]) rfl ?_); at_builtin; refine Hp.at_append (kRaw k79.sz) HO.out 5 rfl (.tmp 37) (.tmp 45) 75 79 (.agg #[.int .i64 0, .slice none 0 0]) 32 rfl Try.underlying75 info79b rfl (by decide) (by omega) (.slice A5 qs.length c5) (qs.map Prod.snd) rfl rfl [.int .i64 y.1.f0, .slice A1 y.1.f1.length c1] [.int .i64 y.1.f0, .slice A1 y.1.f1.length c1] ?hs ?hx (fun _ => ⟨rfl, rfl, by simp [Value.oneCell']⟩) (by rw [List.length_map]; have := HQK.out; have := HL.out; omega) ?_; (case hs => rfl); (case hx => rfl); intro v5 w5 H5; rw [show qs.map Prod.snd ++ [[.int .i64 y.1.f0, .slice A1 y.1.f1.length c1]] = (qs ++ [y]).map Prod.snd by rw [List.map_append, ← HY2.out]; rfl] at H5; obtain ⟨A6, c6, rfl⟩ := H5.fact 5 rfl (fun _ h => Kd.R_slice h); rw [List.length_map, ← HKS.out] at H5))
        go_roundw
        case rel => exact ⟨k + 1, A6, c6, by go_num, by omega, by rw [HKS.out, List.length_append, List.length_singleton]; congr 1; omega, by rw [HKS.out, List.length_append, List.length_singleton]; have := HQK.out; omega, by rw [HKS.out, List.length_append, List.length_singleton], ⟨H5⟩⟩
        case measure => simp [intOf]; omega
      · rw [if_neg hts] at hks
        have d2 : decide (ts < y.1.f0) = false := decide_eq_false hts
        have HKS := Aside0.mk hks
        have HQK := Aside0.mk hqk
        clear hks hts hy hqk hy2
        generalize kept ts (ps.take k) = qs at HO HKS HQK
        go_wp2
        have hw : wrap64 ((k : Int) - (qs.length : Int) + 1) = (k : Int) - (qs.length : Int) + 1 := IntWalk.wrap64_in _ (by have := HQK.out; omega)
        rw [hw]
        go_roundw
        case rel => exact ⟨k + 1, A5, c5, by go_num, by omega, by rw [HKS.out]; congr 1; omega, by rw [HKS.out]; have := HQK.out; omega, by rw [HKS.out], by rw [HKS.out]; exact HO⟩
        case measure => simp [intOf]; omega
    · have hltz : ¬ (k : Int) < (ps.length : Int) := by omega
      obtain rfl : k = ps.length := by omega
      rw [List.take_length] at HO hqk ⊢
      have u0 := HO.out.unfrozen 2 rfl 0
      have hka := kept_all HPS.out HP.out (ts := ts)
      have hkn : ((ps.length : Int) - ((kept ts ps).length : Int)) = (fgn ts s.l : Int) := by
        have e1 : (kept ts ps).length = s.l.length - fgn ts s.l := by
          have e2 := congrArg List.length hka
          rw [List.length_map, List.length_map, List.length_drop] at e2
          exact e2
        have e3 : fgn ts s.l ≤ s.l.length := (List.takeWhile_prefix _).length_le
        have := HLN.out
        omega
      rw [hkn]
      have HKA := Aside0.mk hka
      clear hka hkn hqk
      go_wp2
      go_ret
      refine ⟨_, rfl, ?_⟩
      have h1 := HO.out.box_set 2 rfl rfl 0 (.slice A5 (kept ts ps).length c5)
      have h2 := h1.imp (A' := Asn.els k79 (kept ts ps)) 4 rfl (fun _ h => els_sub h (fun p hp => (List.mem_filter.1 hp).1))
      have h3 := h2.raw_close 5 4 rfl rfl (by decide) rfl rfl
      exact shutW4 (s := ⟨s.l.drop (fgn ts s.l), ts, s.la⟩) (h3.keep [0, 1, 2, 5]) HKA.out
set_option maxHeartbeats 8000000 in
set_option maxRecDepth 100000 in
theorem rforget_no (b : Nat) (s : V) (ts : Int) (h : ts ≤ s.fl) : Tr Try.prog 27 #[.pointer (some ⟨b, 0, none⟩), .int .i64 ts] Asn.top (isW b s) (fun r => Asn.and (Asn.lift (r = .int .i64 0)) (isW b s)) := by
  refine Tr.intro fun w U H0 => ?_
  obtain ⟨v, H1⟩ := H0.open_ 2 rfl
  have H : Hp w w [(0, Asn.old w U), (0, Asn.top), (1, Asn.box b #[v, .int .i64 s.la, .int .i64 s.fl] 77), (2, Asn.row k79 79 v (s.l.map to79))] := H1.split 2 2 rfl rfl (by decide)
  clear H0 H1
  have z2 : w.cell? ⟨b, 2, none⟩ = some (.int .i64 s.fl) := H.cell 2 rfl 2 rfl
  have d1 : decide (ts ≤ s.fl) = true := decide_eq_true h
  clear h
  go_enter Try.func27, Try.ntmps27
  go_wp2
  go_ret
  exact ⟨_, rfl, shutW H rfl⟩
theorem rforget_tr (b : Nat) (s : V) (ts : Int) (hl : s.l.length ≤ 4096) (hp : s.l.Pairwise (fun x y => x.f0 < y.f0)) : Tr Try.prog 27 #[.pointer (some ⟨b, 0, none⟩), .int .i64 ts] Asn.top (isW b s) (fun r => Asn.and (Asn.lift (r = .int .i64 (forgetV s ts).1)) (isW b (forgetV s ts).2)) := by
  unfold forgetV
  by_cases h : ts ≤ s.fl
  · rw [if_pos h]
    exact rforget_no b s ts h
  · rw [if_neg h]
    exact rforget_go b s ts h hl hp
end Go.Proofs.Ytgbmlkoblcfceaa.Vd

/-
Of the row ValidOwn: printed walks and plain laws, merged (wip/claim2.py).
-/
import Derived.Test.YtgbmlkoblcfceaaQValidOwn3
import Derived.Test.YtgbmlkoblcfceaaQValidOwn8
import Derived.Test.YtgbmlkoblcfceaaQValidOwn20
import Derived.Test.YtgbmlkoblcfceaaQValidOwn22
set_option linter.unusedVariables false
set_option linter.unusedSimpArgs false
namespace Go.Proofs.Ytgbmlkoblcfceaa.Vd
open Go.RowKit Go.Shelf Go.Proofs.Ytgbmlkoblcfceaa.B Go.Proofs.YtgbmlkoblcfceaaW.PrintWords Go.Proofs.YtgbmlkoblcfceaaW.PrintLast Go.Proofs.YtgbmlkoblcfceaaW.PrintMore Go.Proofs.YtgbmlkoblcfceaaW.Mine Go.Proofs.YtgbmlkoblcfceaaW.Hp
theorem obj_new {w0 w : World} {L : List (Nat × Asn)} (H : Hp w0 w L) (m : Nat) (o : Obj) : Hp w0 (w.alloc o) (L ++ [(m, Asn.obj w.heap.size o)]) :=
  H.new m (al0 w o) ⟨World.alloc_heap_new w o, Nat.le_refl _⟩
attribute [local go_sem] Oper.semAt_some
def spoilt : ByteArray := { data := #[115, 112, 111, 105, 108, 116] }
theorem addV_own (keys : List ByteArray) : addV ⟨[], 0, 0⟩ 3 ([] ++ keys) = (0, ⟨[⟨3, keysOf keys⟩], 0, 3⟩) := by
  unfold addV
  rw [if_neg (by show ¬ ((3 : Int) ≤ 0 ∨ (3 : Int) ≤ 0 ∨ (1099511627776 : Int) < 3); omega), if_neg (by show ¬ 4096 ≤ 0; omega)]
  rfl
set_option maxHeartbeats 16000000 in
set_option maxRecDepth 100000 in
theorem own_go (w : World) (A : Option Addr) (c : Nat) (keys : List ByteArray) (hC : Kd.C Kd.string w A keys.length keys) (hc : keys.length ≤ c) (hl : keys.length * 16 ≤ 140737488351232) :
    Calls Try.prog 6 #[.slice A keys.length c] w fun e w' => e = .returned (.bool true) ∧ Below w.heap.size w w' := by
  have HS := Aside0.mk ((Hp.start w).came Kd.heap_string 0 rfl hC)
  have HL := Aside0.mk hl
  have HD := Aside0.mk (addV_own keys)
  have hmx : keys.length ≤ 9223372036854775807 := by omega
  clear hC hl
  refine (callsIn_wide (n := 3)).1 (callsIn_of_wp_marks Try.func6 rfl trivial ?_ rfl)
  rw [wpIn_wide]
  simp only [Try.ntmps6, List.size_toArray, List.length_cons, List.length_nil, Nat.reduceAdd, Nat.reduceSub, Array.replicate_succ, Array.replicate_zero, List.push_toArray, List.append_toArray, List.nil_append, List.cons_append]
  go_wp2_with (first
    | ((with_reducible refine gate_dst (N := 1) rfl ?_); refine Hp.at_box HS.out 1 ?hg (N := 1) ?hd (cs := #[.slice A keys.length c]) (t := 23) ?hr ?_; (case hd => rfl); (case hg => rfl); (case hr => first | (go_simp; done) | (go_simp; rfl)); intro g1 w1 H1)
    | ((with_reducible refine gate_dst (N := 2) rfl ?_); refine Hp.at_box H1 2 ?hg (N := 2) ?hd (cs := #[.bool false]) (t := 4) ?hr ?_; (case hd => rfl); (case hg => rfl); (case hr => first | (go_simp; done) | (go_simp; rfl)); intro g2 w2 H2; clear H1)
    | (go_at_call 13; refine (newV H2 5 rfl).mono ?_; rintro e w3 ⟨b, rfl, H3⟩; clear H2; have y1 := H3.cell 2 rfl 0 (v := .slice A keys.length c) rfl)
    | ((with_reducible refine gate_dst (N := 12) rfl ?_); refine Hp.at_lit Kd.string H3 4 9 ?hg (N := 12) ?hd (xs := ([] : List ByteArray)) (inner := []) ?hr ?hp (by simp) ?_; (case hd => rfl); (case hg => rfl); (case hr => first | (go_simp; done) | (go_simp; rfl)); (case hp => exact fun _ => Reps.none _ _); intro A4 c4 w4 hc4 H4; clear H3 y1; have y1 := H4.cell 2 rfl 0 (v := .slice A keys.length c) rfl)
    | ((with_reducible refine gate_builtin (b := .append) (xs := #[.tmp 12, .tmp 13]) rfl ?_); at_builtin; refine Hp.at_append_rows Kd.string H4 5 rfl (.tmp 12) (.tmp 13) 23 9 (.string ⟨#[]⟩) 16 rfl Try.underlying23 info9b rfl (by decide) (by omega) _ [] keys A keys.length c rfl rfl ?hs ?hx (H4.reads 1 rfl) (fun _ _ h => h) (by have := HL.out; show (0 + keys.length) * 16 ≤ _; omega) ?_; (case hs => rfl); (case hx => rfl); intro v5 w5 H5; obtain ⟨A5, c5, rfl⟩ := H5.fact 5 rfl (fun _ h => Kd.R_slice h); have hcc5 := (H5.row_C 5 rfl).2.1; clear H4 y1)
    | (go_at_call 14; refine (H5.call (add_tr b ⟨[], 0, 0⟩ 3 A5 c5 ([] ++ keys) hcc5 (by have := HL.out; simp; omega)) 4 rfl rfl (fun lab h => (Asn.rd Kd.string A5 _ ([] ++ keys)).mono (row_rd (h.get (p := 5) rfl)) (fun k _ hk => by omega))).mono ?_; rintro e w6 ⟨r6, rfl, H6⟩; rw [HD.out] at H6; obtain rfl := H6.fact 4 rfl (fun _ h => h.1); have H7 := H6.imp (A' := isV b ⟨[⟨3, keysOf keys⟩], 0, 3⟩) 4 rfl (fun _ h => h.2); clear H5 H6)
    | (go_at_call 11; refine (live_calls _).mono ?_; rintro e w8 ⟨rfl, hb8⟩; have H8 := H7.same hb8; clear H7 hb8))
  have HG := Aside0.mk (show keys.length < 8796093022208 by have := HL.out; omega)
  go_loopg [29] keys.length (fun gk v29 wr => ∃ (i : Nat) (ys : List ByteArray), v29 = .int .i64 i ∧ i ≤ keys.length ∧ keys.length - i ≤ gk ∧ ys.length = keys.length ∧ Aside0 (Hp w wr [(0, Asn.old w (fun _ => False)), (0, Asn.rd Kd.string A keys.length keys), (1, Asn.box g1 #[.slice A keys.length c] 23), (2, Asn.box g2 #[.bool false] 4), (5, isV b ⟨[⟨3, keysOf keys⟩], 0, 3⟩), (4, Asn.row Kd.string 9 (.slice A5 keys.length c5) ys)]))
  case atStart => exact ⟨0, [] ++ keys, rfl, Nat.zero_le _, by omega, rfl, ⟨H8⟩⟩
  case round =>
    clear H8
    obtain ⟨i, ys, rfl, hil, hgk, hyl, HO⟩ := hrel
    by_cases hlt : i < keys.length
    · have hltz : (i : Int) < (keys.length : Int) := by omega
      obtain ⟨q, cap, he, _, _, _⟩ := HO.out.fact 5 rfl (fun _ h => Kd.R_form h (by omega))
      injection he with he1 he2 he3
      subst he1
      rw [← hyl] at HO
      obtain ⟨x0, u0⟩ := HO.out.fact 5 rfl (fun _ h => Kd.R_cell (enc := Value.string) (h1 := fun _ => rfl) ByteArray.empty h (i : Int) (by omega) (by omega))
      rw [Int.toNat_natCast] at x0 u0
      generalize rdOf ByteArray.empty ys (i : Int) = Z at x0
      have HO2 : Aside0 (Hp w (wr.setCell ⟨q, i, none⟩ (.string spoilt)) [(0, Asn.old w (fun _ => False)), (0, Asn.rd Kd.string A keys.length keys), (1, Asn.box g1 #[.slice A keys.length c] 23), (2, Asn.box g2 #[.bool false] 4), (5, isV b ⟨[⟨3, keysOf keys⟩], 0, 3⟩), (4, Asn.row Kd.string 9 (.slice (some ⟨q, 0, none⟩) keys.length c5) (ys.set i spoilt))]) := ⟨by
        have h1 := HO.out.row_set (enc := Value.string) (h1 := fun _ => rfl) 5 rfl rfl (i : Int) spoilt
        rw [hyl] at h1
        exact h1⟩
      have HY : Aside0 ((ys.set i spoilt).length = keys.length) := ⟨by rw [List.length_set]; exact hyl⟩
      have HGK := Aside0.mk hgk
      clear HO he2 he3 hyl hgk
      go_wp2
      go_roundg (keys.length - (i + 1))
      case measure => have := HGK.out; omega
      case rel => exact ⟨i + 1, ys.set i spoilt, by go_num, by omega, by omega, HY.out, HO2⟩
    · have hle : i = keys.length := by omega
      have hltz : ¬ (i : Int) < (keys.length : Int) := by omega
      have H9 := HO.out.keep [0, 1, 2, 3, 4]
      clear HO hle
      go_wp2_with (go_at_call 20; refine (recent_hp H9 4 6 rfl rfl (by decide) (by show 1 < 4398046511104; decide)).mono ?_; rintro e w10 ⟨g6, A6, c6, rfl, hc6, H10⟩; clear H9)
      have hsm : ∀ x ∈ [(⟨3, keysOf keys⟩ : S67)], x.f1.length < 8796093022208 := by
        intro x hx
        rw [List.mem_singleton.1 hx]
        have e1 := Cp.cpt_len (Srt.srt keys)
        rw [srt_len] at e1
        exact Nat.lt_of_le_of_lt e1 HG.out
      refine wpIn_wide.1 (rf_walk (n := 3) (by omega) (gf := 39) (lb := #[.pointer (some ⟨g6, 0, none⟩)]) rfl (enters_of Try.func39 (by kernel_rfl) rfl) ?_)
      intro rec hYield
      have H12 := obj_new (obj_new H10 7 (.deferred (some []))) 8 (.loop (rec .ready none))
      rw [World.size_alloc] at H12
      clear H10
      refine (rec39_in (w10.heap.size + 1) g6 1 A6 c6 [⟨3, keysOf keys⟩] hc6 hsm (fun _ W => Hp w W [(0, Asn.old w (fun _ => False)), (0, Asn.rd Kd.string A keys.length keys), (1, Asn.box g1 #[.slice A keys.length c] 23), (2, Asn.box g2 #[.bool false] 4), (5, isV b ⟨[⟨3, keysOf keys⟩], 0, 3⟩), (6, Asn.box g6 #[.slice A6 1 c6] 59), (5, Asn.rd k67 A6 1 [⟨3, keysOf keys⟩]), (7, Asn.obj w10.heap.size (.deferred (some []))), (8, Asn.obj (w10.heap.size + 1) (.loop (rec .ready none)))]) (fun _ _ => False) _ (fun _ _ H => ⟨H.cell 5 rfl 0 rfl, H.reads 6 rfl⟩) (fun _ _ _ H hb => H.same hb) ?_ H12).mono ?_
      · intro i0 W0 W1 v hi0 HJ hB hR
        have H13 := HJ.made 9 hB hR
        generalize (rd_T67 [(⟨3, keysOf keys⟩ : S67)] (i0 : Int)).f1 = ks at H13 hR
        generalize (rd_T67 [(⟨3, keysOf keys⟩ : S67)] (i0 : Int)).f0 = t0
        obtain ⟨Av, cv, rfl⟩ := Kd.R_slice hR
        clear hR HJ hB H12
        refine hYield #[.int .i64 t0, .slice Av ks.length cv] W1 _ _ rfl (H13.obj_at 8 rfl) (fun K hK => by gi_wp2; exact hK) ?_
        have H14 := H13.put_obj 8 rfl rfl (.loop { rec .ready none with state := .busy })
        have hkm : ks.length ≤ 9223372036854775807 := (H14.row_C 9 rfl).2.2.2.1
        clear H13 hYield
        gi_wp2
        gi_loopw [42] (fun p wr => ∃ (j : Nat) (ys : List ByteArray), p = .int .i64 j ∧ j ≤ ks.length ∧ ys.length = ks.length ∧ Aside0 (Hp w wr [(0, Asn.old w (fun _ => False)), (0, Asn.rd Kd.string A keys.length keys), (1, Asn.box g1 #[.slice A keys.length c] 23), (2, Asn.box g2 #[.bool false] 4), (5, isV b ⟨[⟨3, keysOf keys⟩], 0, 3⟩), (6, Asn.box g6 #[.slice A6 1 c6] 59), (5, Asn.rd k67 A6 1 [⟨3, keysOf keys⟩]), (7, Asn.obj w10.heap.size (.deferred (some []))), (8, Asn.obj (w10.heap.size + 1) (.loop { rec .ready none with state := .busy })), (9, Asn.row Kd.string 9 (.slice Av ks.length cv) ys)])) (fun p _ => ks.length - (intOf p).toNat)
        case atStart => exact ⟨0, ks, rfl, Nat.zero_le _, rfl, ⟨H14⟩⟩
        case round =>
          clear H14
          obtain ⟨j, ys, rfl, hjl, hyl, HO⟩ := hrel
          by_cases hlt2 : j < ks.length
          · have hjz : (j : Int) < (ks.length : Int) := by omega
            obtain ⟨q, cap, he, _, _, _⟩ := HO.out.fact 9 rfl (fun _ h => Kd.R_form h (by omega))
            injection he with he1 he2 he3
            subst he1
            rw [← hyl] at HO
            obtain ⟨x0, u0⟩ := HO.out.fact 9 rfl (fun _ h => Kd.R_cell (enc := Value.string) (h1 := fun _ => rfl) ByteArray.empty h (j : Int) (by omega) (by omega))
            rw [Int.toNat_natCast] at x0 u0
            generalize rdOf ByteArray.empty ys (j : Int) = Z at x0
            have HO2 : Aside0 (Hp w (wr.setCell ⟨q, j, none⟩ (.string spoilt)) [(0, Asn.old w (fun _ => False)), (0, Asn.rd Kd.string A keys.length keys), (1, Asn.box g1 #[.slice A keys.length c] 23), (2, Asn.box g2 #[.bool false] 4), (5, isV b ⟨[⟨3, keysOf keys⟩], 0, 3⟩), (6, Asn.box g6 #[.slice A6 1 c6] 59), (5, Asn.rd k67 A6 1 [⟨3, keysOf keys⟩]), (7, Asn.obj w10.heap.size (.deferred (some []))), (8, Asn.obj (w10.heap.size + 1) (.loop { rec .ready none with state := .busy })), (9, Asn.row Kd.string 9 (.slice (some ⟨q, 0, none⟩) ks.length cv) (ys.set j spoilt))]) := ⟨by
              have h1 := HO.out.row_set (enc := Value.string) (h1 := fun _ => rfl) 9 rfl rfl (j : Int) spoilt
              rw [hyl] at h1
              exact h1⟩
            have HY : Aside0 ((ys.set j spoilt).length = ks.length) := ⟨by rw [List.length_set]; exact hyl⟩
            clear HO he2 he3 hyl
            gi_wp2
            go_roundw
            case rel => exact ⟨j + 1, ys.set j spoilt, by go_num, by omega, HY.out, HO2⟩
            case measure => simp [intOf]; omega
          · have hjz : ¬ (j : Int) < (ks.length : Int) := by omega
            clear hyl
            gi_wp2
            exact ⟨HO.out.obj_at 8 rfl, rfl, (HO.out.put_obj 8 rfl rfl (.loop (rec .ready none))).keep [0, 1, 2, 3, 4, 5, 6, 7, 8]⟩
      · rintro e W2 ⟨hv, (H13 | ⟨i0, _, hf⟩)⟩
        · refine ⟨hv, .inl ⟨H13.obj_at 8 rfl, fun o' => ?_⟩⟩
          have H14 := (H13.put_obj 8 rfl rfl o').keep [0, 1, 2, 3, 4, 7]
          go_wp2_with (go_at_call 20; refine (recent_hp H14 4 6 rfl rfl (by decide) (by show 1 < 4398046511104; decide)).mono ?_; rintro e w20 ⟨g7, A7, c7, rfl, hc7, H20⟩; clear H14)
          obtain ⟨kk, hkk⟩ := (Ky.keys_ev keys HG.out).rounds
          obtain ⟨ks2, hks2⟩ := (Ky.same_ev (keysOf keys) (by have h9 : (keysOf keys).length < 8796093022208 := hsm _ (List.mem_singleton.2 rfl); omega)).rounds
          have HKK := Aside0.mk hkk
          have HK2 := Aside0.mk hks2
          clear hkk hks2 hv H13 hYield
          refine wpIn_wide.1 (rf_walk (n := 3) (by omega) (gf := 39) (lb := #[.pointer (some ⟨g7, 0, none⟩)]) rfl (enters_of Try.func39 (by kernel_rfl) rfl) ?_)
          intro rec2 hYield
          have H22 := obj_new (obj_new H20 10 (.deferred (some []))) 11 (.loop (rec2 .ready none))
          rw [World.size_alloc] at H22
          clear H20
          refine (rec39_in (w20.heap.size + 1) g7 1 A7 c7 [⟨3, keysOf keys⟩] hc7 hsm (fun _ W => Hp w W [(0, Asn.old w (fun _ => False)), (0, Asn.rd Kd.string A keys.length keys), (1, Asn.box g1 #[.slice A keys.length c] 23), (2, Asn.box g2 #[.bool false] 4), (5, isV b ⟨[⟨3, keysOf keys⟩], 0, 3⟩), (7, Asn.obj w10.heap.size (.deferred (some []))), (6, Asn.box g7 #[.slice A7 1 c7] 59), (5, Asn.rd k67 A7 1 [⟨3, keysOf keys⟩]), (10, Asn.obj w20.heap.size (.deferred (some []))), (11, Asn.obj (w20.heap.size + 1) (.loop (rec2 .ready none)))]) (fun _ _ => False) _ (fun _ _ H => ⟨H.cell 6 rfl 0 rfl, H.reads 7 rfl⟩) (fun _ _ _ H hb => H.same hb) ?_ H22).mono ?_
          · intro i0 W0 W1 v hi0 HJ hB hR
            have H23 := HJ.made 12 hB hR
            obtain rfl : i0 = 0 := by simp at hi0; exact hi0
            rw [show (rd_T67 [(⟨3, keysOf keys⟩ : S67)] ((0 : Nat) : Int)).f1 = keysOf keys from rfl] at H23 hR
            obtain ⟨Av, cv, rfl⟩ := Kd.R_slice hR
            clear hR HJ hB H22
            refine hYield #[.int .i64 (rd_T67 [(⟨3, keysOf keys⟩ : S67)] ((0 : Nat) : Int)).f0, .slice Av (keysOf keys).length cv] W1 _ _ rfl (H23.obj_at 9 rfl) (fun K hK => by gi_wp2; exact hK) ?_
            have H24 := H23.put_obj 9 rfl rfl (.loop { rec2 .ready none with state := .busy })
            have y1 := H24.cell 2 rfl 0 (v := .slice A keys.length c) rfl
            obtain ⟨_, hcv, hCv⟩ := H24.row_C 10 rfl
            have HCV := Aside0.mk hCv
            clear H23 hYield hCv
            generalize (rd_T67 [(⟨3, keysOf keys⟩ : S67)] ((0 : Nat) : Int)).f0 = t0
            gi_wp2_with (first
              | (refine ⟨trivial, ?_⟩; gi_at_call 21; refine (CallsIn.inRound _ (callsIn_wide.2 (cressetref23_Keys.calls kk A c keys (keysOf keys) _ (H24.reads 1 rfl) hc HKK.out))).mono ?_; rintro e w25 ⟨v25, rfl, hR25, hb25⟩; have H25 := (H24.same hb25); have HC25 := Kd.C_below HCV.out hb25; obtain ⟨A25, c25, rfl, hc25, hC25⟩ := Kd.R_reads hR25; clear hb25 hR25)
              | (refine ⟨trivial, ?_⟩; gi_at_call 17; refine (CallsIn.inRound _ (callsIn_wide.2 (cressetref23_Same.calls ks2 Av cv (keysOf keys) A25 c25 (keysOf keys) true _ HC25 hcv hC25 hc25 HK2.out))).mono ?_; rintro e w26 ⟨rfl, ⟨nd, rfl⟩⟩))
            exact ⟨(H25.drewN nd).obj_at 9 rfl, true, rfl, .inl ⟨rfl, ((H25.drewN nd).put_obj 9 rfl rfl (.loop (rec2 .ready none))).keep [0, 1, 2, 3, 4, 5, 6, 7, 8, 9]⟩⟩
          · rintro e W2 ⟨hv, (H23 | ⟨i0, _, hf⟩)⟩
            · refine ⟨hv, .inl ⟨H23.obj_at 9 rfl, fun o' => ?_⟩⟩
              have H24 := (H23.put_obj 9 rfl rfl o').keep [0, 3, 5, 8]
              have y2 := H24.cell 1 rfl 0 (v := .bool false) rfl
              have u2 := H24.unfrozen 1 rfl 0
              have H25 := H24.box_set 1 rfl rfl 0 (.bool true)
              have H26 := H25.put_obj 3 rfl rfl (.deferred none)
              have H27 := H26.put_obj 2 rfl rfl (.deferred none)
              have hc := H27.cell 1 rfl 0 (v := .bool true) rfl
              have hd2 := H25.obj_at 3 rfl
              have hd1 := H26.obj_at 2 rfl
              clear H24 H25 H26
              go_wp2
              refine ⟨by simp, .inl ⟨_, _, rfl, run_takeDeferred hd2, ?_⟩⟩
              refine ⟨by simp, .inl ⟨_, _, rfl, run_takeDeferred hd1, ?_⟩⟩
              refine ⟨.bool true, ?_, rfl, H27.below 0 rfl (fun _ h => h)⟩
              simp [results, Try.f6, go_sem, hc]
            · exact hf.elim
        · exact hf.elim
theorem ValidOwn : cressetlaw23_ValidOwn.Pure := by
  intro A c keys w hC hc h0
  exact own_go w A c keys hC hc h0.2.1
end Go.Proofs.Ytgbmlkoblcfceaa.Vd

namespace Go.Proofs.Ytgbmlkoblcfceaa.Pure
open Go.RowKit Go.Proofs.Ytgbmlkoblcfceaa.B
theorem ValidOwn : cressetlaw23_ValidOwn.Pure := Vd.ValidOwn
end Go.Proofs.Ytgbmlkoblcfceaa.Pure

/-
Of the row RecordParts: printed walks and plain laws, merged (wip/claim2.py).
-/
import Derived.Test.YtkcdmoghnoodmaaQRecordParts11
import Derived.Test.YtkcdmoghnoodmaaQRecordParts13
import Derived.Test.YtkcdmoghnoodmaaQRecordParts14
set_option linter.unusedVariables false
set_option linter.unusedSimpArgs false
namespace Go.Proofs.Ytkcdmoghnoodmaa.Tw
open Go.RowKit Go.Proofs.Ytkcdmoghnoodmaa.B Go.Proofs.YtkcdmoghnoodmaaW.PrintWords Go.Proofs.YtkcdmoghnoodmaaW.PrintLast Go.Proofs.YtkcdmoghnoodmaaW.PrintMore Go.Proofs.YtkcdmoghnoodmaaW.Mine Go.Proofs.YtkcdmoghnoodmaaW.Hp
open Go.Proofs.Ytkcdmoghnoodmaa.Lib Go.Proofs.Ytkcdmoghnoodmaa.Cod Go.Proofs.Ytkcdmoghnoodmaa.Rd Go.Proofs.Ytkcdmoghnoodmaa.Wr Go.Proofs.Ytkcdmoghnoodmaa.Tk

theorem newer {w0 w : World} {L : List (Nat × Asn)} (H : Hp w0 w L) (p q : Nat) {i j b : Nat} {o : Array Value} {t : TypeId} (hi : L[p]? = some (i, Asn.old w0 (fun _ => False))) (hj : L[q]? = some (j, Asn.box b o t)) (hij : i ≠ j) : w0.heap.size ≤ b := by
  obtain ⟨lab, hl⟩ := H.all
  have h1 := hl.get hi
  have h2 := (hl.get hj).2
  by_cases h : w0.heap.size ≤ b
  · exact h
  · have h3 := (h1.2 b (by omega) id).1
    have h4 : lab b = i := h3
    have h5 : lab b = j := h2
    omega
theorem apart {w0 w : World} {L : List (Nat × Asn)} (H : Hp w0 w L) (p q : Nat) {i j b b' : Nat} {o o' : Array Value} {t t' : TypeId} (hi : L[p]? = some (i, Asn.box b o t)) (hj : L[q]? = some (j, Asn.box b' o' t')) (hij : i ≠ j) : b ≠ b' := by
  obtain ⟨lab, hl⟩ := H.all
  have h1 : lab b = i := (hl.get hi).2
  have h2 : lab b' = j := (hl.get hj).2
  rintro rfl
  omega
theorem s87_call {w0 w w' : World} {L : List (Nat × Asn)} {b : List Int} {f1 f2 : Int} {cs : Array Value} {g i : Nat} (H : Hp w0 w L) (p : Nat) (hi : L[p]? = some (i, Asn.box g cs 87)) (hn : Go.Proofs.YtkcdmoghnoodmaaW.Hp.lone i L p = true) (hI : IsS87 w0 w' g b f1 f2) (hB : Below w0.heap.size w0 w') (hK : KeepBut w w' g none) :
    ∃ A c, Hp w0 w' (L.set p (i, Asn.box g #[.slice A b.length c, .int .i64 f1, .int .i64 f2] 87)) := by
  obtain ⟨A, c, h, _, _⟩ := hI
  refine ⟨A, c, H.upd p hi hn (hB.os.trans H.os.symm) (hB.tape.trans H.tape.symm) (hB.output.trans H.output.symm) hK.1 (fun S hS => ⟨⟨h, .inl hS.2⟩, fun k hk hne => hK.2 k hk (fun e => hne (by rw [e]; exact hS.2)) (by simp)⟩)⟩
set_option maxHeartbeats 16000000 in
set_option maxRecDepth 100000 in
theorem takeW_calls {b : List Int} (hb : Bytes b) (hl : b.length ≤ 140737488351232) (A0 : Option Addr) (c0 : Nat) (w : World) (hr : Kd.C U8 w A0 b.length b) (hc : b.length ≤ c0) :
    Calls Try.prog 44 #[.slice A0 b.length c0] w fun e w' => e = .returned (if (RW b 0 0).2.2 = 0 then .tuple #[.agg #[.string (RW b 0 0).1.f0, .string (RW b 0 0).1.f1, .bool (RW b 0 0).1.f2], .int .i64 (RW b 0 0).2.1, .int .i64 0] else .tuple #[.agg #[.string ⟨#[]⟩, .string ⟨#[]⟩, .bool false], .int .i64 0, .int .i64 (RW b 0 0).2.2]) ∧ Below w.heap.size w w' := by
  have H0 := (Hp.start w).came (Kd.heap_int _) 0 rfl hr
  obtain ⟨k, hk⟩ := (write_ev hb hl (e := 0) (In0 b)).rounds
  obtain ⟨⟨x, a1, e1⟩, h1⟩ : ∃ q, RW b 0 0 = q := ⟨_, rfl⟩
  rw [h1] at hk ⊢
  dsimp only at hk ⊢
  have HK := Aside0.mk hk
  have HR := Aside0.mk hr
  have HC := Aside0.mk hc
  clear hk h1 hr hc
  by_cases he : e1 = 0
  · subst he
    rw [if_pos rfl]
    go_enter Try.func44, Try.ntmps44
    go_upto_region 3 with (first
      | ((with_reducible refine gate_dst (N := 2) rfl ?_); refine Hp.at_box H0 1 ?hg (N := 2) ?hd (cs := #[.string ⟨#[]⟩, .string ⟨#[]⟩, .bool false]) (t := 33) ?hr ?_; (case hd => rfl); (case hg => rfl); (case hr => first | (go_simp; done) | (go_simp; rfl)); intro g2 w1 H1; clear H0)
      | ((with_reducible refine gate_dst (N := 9) rfl ?_); refine Hp.at_box H1 2 ?hg (N := 9) ?hd (cs := #[.slice A0 b.length c0, .int .i64 0, .int .i64 0]) (t := 87) ?hr ?_; (case hd => rfl); (case hg => rfl); (case hr => first | (go_simp; done) | (go_simp; rfl)); intro g9 w2 H2; clear H1)
      | (go_at_call 57; refine (record_reader_write.calls k g9 b 0 0 x.f0 x.f1 x.f2 a1 0 w _ ⟨A0, c0, H2.fact 3 rfl (fun S h => h.1), newer H2 0 3 rfl rfl (by decide), HR.out, HC.out⟩ (H2.below 0 rfl (fun _ h => h)) HK.out).mono ?_; rintro e w3 ⟨rfl, hI, hB3, hK3⟩; obtain ⟨A3, c3, H3⟩ := s87_call H2 3 rfl rfl hI hB3 hK3; clear hI hB3 hK3 H2)
      | ((with_reducible refine gate_dst (N := 6) rfl ?_); refine Hp.at_box H3 3 ?hg (N := 6) ?hd (cs := #[.string ⟨#[]⟩, .string ⟨#[]⟩, .bool false]) (t := 33) ?hr ?_; (case hd => rfl); (case hg => rfl); (case hr => first | (go_simp; done) | (go_simp; rfl)); intro g6 vg6 H4z; clear H3; have z0 := H4z.cell 4 rfl 0 (v := .string ⟨#[]⟩) rfl; have z1 := H4z.cell 4 rfl 1 (v := .string ⟨#[]⟩) rfl; have z2 := H4z.cell 4 rfl 2 (v := .bool false) rfl; have uz0 := H4z.unfrozen 4 rfl 0; have uz1 := H4z.unfrozen 4 rfl 1; have uz2 := H4z.unfrozen 4 rfl 2; have H4 := Hp.box_sets (i := 3) (p := 4) [.string x.f0, .string x.f1, .bool x.f2] 0 _ _ _ H4z rfl rfl; simp only [sets, Nat.zero_add, Nat.reduceAdd] at H4))
    clear z0 z1 z2 uz0 uz1 uz2 H4z
    generalize ((vg6.setCell ⟨g6, 0, none⟩ (.string x.f0)).setCell ⟨g6, 1, none⟩ (.string x.f1)).setCell ⟨g6, 2, none⟩ (.bool x.f2) = w5 at H4 ⊢
    have y1 := H4.cell 3 rfl 1 (v := .int .i64 a1) rfl
    have y2 := H4.cell 3 rfl 2 (v := .int .i64 0) rfl
    have k0 := H4.cell 4 rfl 0 (v := .string x.f0) rfl
    have k1 := H4.cell 4 rfl 1 (v := .string x.f1) rfl
    have k2 := H4.cell 4 rfl 2 (v := .bool x.f2) rfl
    have r0 := H4.cell 2 rfl 0 (v := .string ⟨#[]⟩) rfl
    have ur0 := H4.unfrozen 2 rfl 0
    have r1 := H4.cell 2 rfl 1 (v := .string ⟨#[]⟩) rfl
    have ur1 := H4.unfrozen 2 rfl 1
    have r2 := H4.cell 2 rfl 2 (v := .bool false) rfl
    have ur2 := H4.unfrozen 2 rfl 2
    have n1 := apart H4 2 3 rfl rfl (by decide)
    have n2 := apart H4 2 4 rfl rfl (by decide)
    have n1' := n1.symm
    have n2' := n2.symm
    go_wp2
    go_region
    go_wp2
    have H5 := (((H4.box_set 2 rfl rfl 0 (.string x.f0)).box_set 2 rfl rfl 1 (.string x.f1)).box_set 2 rfl rfl 2 (.bool x.f2)).drew
    have cc0 := H5.cell 2 rfl 0 (v := .string x.f0) rfl
    have cc1 := H5.cell 2 rfl 1 (v := .string x.f1) rfl
    have cc2 := H5.cell 2 rfl 2 (v := .bool x.f2) rfl
    refine bodyPost_ret (v := .tuple #[.agg #[.string x.f0, .string x.f1, .bool x.f2], .int .i64 a1, .int .i64 0]) (by simp [results, Try.f44, go_sem, cc0, cc1, cc2]) rfl ⟨rfl, H5.below 0 rfl (fun _ h => h)⟩
  · rw [if_neg he]
    have q1 : (e1 != 0) = true := bne_iff_ne.mpr he
    have q2 : (e1 == 0) = false := beq_eq_false_iff_ne.mpr he
    go_enter Try.func44, Try.ntmps44
    go_upto_region 3 with (first
      | ((with_reducible refine gate_dst (N := 2) rfl ?_); refine Hp.at_box H0 1 ?hg (N := 2) ?hd (cs := #[.string ⟨#[]⟩, .string ⟨#[]⟩, .bool false]) (t := 33) ?hr ?_; (case hd => rfl); (case hg => rfl); (case hr => first | (go_simp; done) | (go_simp; rfl)); intro g2 w1 H1; clear H0)
      | ((with_reducible refine gate_dst (N := 9) rfl ?_); refine Hp.at_box H1 2 ?hg (N := 9) ?hd (cs := #[.slice A0 b.length c0, .int .i64 0, .int .i64 0]) (t := 87) ?hr ?_; (case hd => rfl); (case hg => rfl); (case hr => first | (go_simp; done) | (go_simp; rfl)); intro g9 w2 H2; clear H1)
      | (go_at_call 57; refine (record_reader_write.calls k g9 b 0 0 x.f0 x.f1 x.f2 a1 e1 w _ ⟨A0, c0, H2.fact 3 rfl (fun S h => h.1), newer H2 0 3 rfl rfl (by decide), HR.out, HC.out⟩ (H2.below 0 rfl (fun _ h => h)) HK.out).mono ?_; rintro e w3 ⟨rfl, hI, hB3, hK3⟩; obtain ⟨A3, c3, H3⟩ := s87_call H2 3 rfl rfl hI hB3 hK3; clear hI hB3 hK3 H2)
      | ((with_reducible refine gate_dst (N := 6) rfl ?_); refine Hp.at_box H3 3 ?hg (N := 6) ?hd (cs := #[.string ⟨#[]⟩, .string ⟨#[]⟩, .bool false]) (t := 33) ?hr ?_; (case hd => rfl); (case hg => rfl); (case hr => first | (go_simp; done) | (go_simp; rfl)); intro g6 vg6 H4z; clear H3; have z0 := H4z.cell 4 rfl 0 (v := .string ⟨#[]⟩) rfl; have z1 := H4z.cell 4 rfl 1 (v := .string ⟨#[]⟩) rfl; have z2 := H4z.cell 4 rfl 2 (v := .bool false) rfl; have uz0 := H4z.unfrozen 4 rfl 0; have uz1 := H4z.unfrozen 4 rfl 1; have uz2 := H4z.unfrozen 4 rfl 2; have H4 := Hp.box_sets (i := 3) (p := 4) [.string x.f0, .string x.f1, .bool x.f2] 0 _ _ _ H4z rfl rfl; simp only [sets, Nat.zero_add, Nat.reduceAdd] at H4))
    clear z0 z1 z2 uz0 uz1 uz2 H4z
    generalize ((vg6.setCell ⟨g6, 0, none⟩ (.string x.f0)).setCell ⟨g6, 1, none⟩ (.string x.f1)).setCell ⟨g6, 2, none⟩ (.bool x.f2) = w5 at H4 ⊢
    have y1 := H4.cell 3 rfl 1 (v := .int .i64 a1) rfl
    have y2 := H4.cell 3 rfl 2 (v := .int .i64 e1) rfl
    have k0 := H4.cell 4 rfl 0 (v := .string x.f0) rfl
    have k1 := H4.cell 4 rfl 1 (v := .string x.f1) rfl
    have k2 := H4.cell 4 rfl 2 (v := .bool x.f2) rfl
    have r0 := H4.cell 2 rfl 0 (v := .string ⟨#[]⟩) rfl
    have ur0 := H4.unfrozen 2 rfl 0
    have r1 := H4.cell 2 rfl 1 (v := .string ⟨#[]⟩) rfl
    have ur1 := H4.unfrozen 2 rfl 1
    have r2 := H4.cell 2 rfl 2 (v := .bool false) rfl
    have ur2 := H4.unfrozen 2 rfl 2
    have n1 := apart H4 2 3 rfl rfl (by decide)
    have n2 := apart H4 2 4 rfl rfl (by decide)
    have n1' := n1.symm
    have n2' := n2.symm
    go_wp2
    go_region
    go_wp2
    have H5 := (((H4.box_set 2 rfl rfl 0 (.string ⟨#[]⟩)).box_set 2 rfl rfl 1 (.string ⟨#[]⟩)).box_set 2 rfl rfl 2 (.bool false)).drew
    have cc0 := H5.cell 2 rfl 0 (v := .string ⟨#[]⟩) rfl
    have cc1 := H5.cell 2 rfl 1 (v := .string ⟨#[]⟩) rfl
    have cc2 := H5.cell 2 rfl 2 (v := .bool false) rfl
    refine bodyPost_ret (v := .tuple #[.agg #[.string ⟨#[]⟩, .string ⟨#[]⟩, .bool false], .int .i64 0, .int .i64 e1]) (by simp [results, Try.f44, go_sem, cc0, cc1, cc2]) rfl ⟨rfl, H5.below 0 rfl (fun _ h => h)⟩
set_option maxHeartbeats 16000000 in
set_option maxRecDepth 100000 in
theorem takeW_tr {b : List Int} (hb : Bytes b) (hl : b.length ≤ 140737488351232) (A0 : Option Addr) (c0 : Nat) (w : World) (hr : Kd.C U8 w A0 b.length b) (hc : b.length ≤ c0) :
    Calls Try.prog 45 #[.slice A0 b.length c0] w fun e w' => ∃ A c, e = .returned (if (RW b 0 0).2.2 = 0 then .tuple #[.agg #[.string (RW b 0 0).1.f0, .string (RW b 0 0).1.f1, .bool (RW b 0 0).1.f2], .slice A (dr b (RW b 0 0).2.1).length c, .int .i64 0] else .tuple #[.agg #[.string ⟨#[]⟩, .string ⟨#[]⟩, .bool false], .slice A b.length c, .int .i64 (RW b 0 0).2.2]) ∧ Below w.heap.size w w' := by
  have H := (Hp.start w).came (Kd.heap_int _) 0 rfl hr
  have T := fun p => write_tr hb hl (p := p) (A0 := A0) (In0 b) 0
  obtain ⟨⟨x, a1, e1⟩, h1⟩ : ∃ q, RW b 0 0 = q := ⟨_, rfl⟩
  rw [h1] at T ⊢
  dsimp only at T ⊢
  have TW := Aside0.mk T
  clear T h1 hr
  by_cases he : e1 = 0
  · subst he
    simp only [if_true]
    go_enter Try.func45, Try.ntmps45
    go_upto_region 3 with (first
      | ((with_reducible refine gate_dst (N := 2) rfl ?_); refine Hp.at_box H 3 ?hg (N := 2) ?hd (cs := #[.string ⟨#[]⟩, .string ⟨#[]⟩, .bool false]) (t := 33) ?hr ?_; (case hd => rfl); (case hg => rfl); (case hr => first | (go_simp; done) | (go_simp; rfl)); intro g2 w1 H1; clear H)
      | ((with_reducible refine gate_dst (N := 9) rfl ?_); refine Hp.at_box H1 2 ?hg (N := 9) ?hd (cs := #[.slice A0 b.length c0]) (t := 95) ?hr ?_; (case hd => rfl); (case hg => rfl); (case hr => first | (go_simp; done) | (go_simp; rfl)); intro rb w2 H2; clear H1)
      | ((with_reducible refine gate_dst (N := 11) rfl ?_); refine Hp.at_box H2 1 ?hg (N := 11) ?hd (cs := #[.pointer (some ⟨rb, 0, none⟩), .int .i64 0]) (t := 97) ?hr ?_; (case hd => rfl); (case hg => rfl); (case hr => first | (go_simp; done) | (go_simp; rfl)); intro p w3 H3'; have H3 : Hp w w3 [(0, Asn.old w (fun _ => False)), (0, Asn.rd U8 A0 b.length b), (1, isTk p A0 b 0 0), (3, Asn.box g2 #[.string ⟨#[]⟩, .string ⟨#[]⟩, .bool false] 33)] := (((H3'.join 4 3 rfl rfl (by decide) rfl rfl).imp 4 (A' := isTk p A0 b 0 0) rfl (fun S h => ⟨(rb, A0, c0), ⟨hc, leads_refl A0 b⟩, h⟩)).keep [0, 1, 4, 2]); clear H2 H3')
      | (go_at_call 61; refine (H3.call (TW.out p) 2 rfl rfl (fun lab h => (Asn.rd U8 A0 _ _).mono (h.get (p := 1) rfl) (fun k _ hk => by have h2 : lab k = 0 := hk; omega))).mono ?_; rintro e' w4 ⟨r, rfl, H'⟩; obtain rfl := H'.fact 2 rfl (fun S h => h.1); have H4' := H'.imp 2 (A' := isTk p A0 b a1 0) rfl (fun S h => h.2); clear H' H3; obtain ⟨⟨rb, A, c⟩, H5⟩ := H4'.open_ 2 rfl; have H6' := (H5.imp 2 (A' := Asn.star (Asn.box p #[.pointer (some ⟨rb, 0, none⟩), .int .i64 0] 97) (Asn.box rb #[.slice A (dr b a1).length c] 95)) rfl (fun S h => h.2)).split 2 2 rfl rfl (by decide); clear H4' H5; have H6 : Hp w w4 [(0, Asn.old w (fun _ => False)), (0, Asn.rd U8 A0 b.length b), (1, Asn.box p #[.pointer (some ⟨rb, 0, none⟩), .int .i64 0] 97), (3, Asn.box g2 #[.string ⟨#[]⟩, .string ⟨#[]⟩, .bool false] 33), (2, Asn.box rb #[.slice A (dr b a1).length c] 95)] := H6'; clear H6')
      | ((with_reducible refine gate_dst (N := 6) rfl ?_); refine Hp.at_box H6 4 ?hg (N := 6) ?hd (cs := #[.string ⟨#[]⟩, .string ⟨#[]⟩, .bool false]) (t := 33) ?hr ?_; (case hd => rfl); (case hg => rfl); (case hr => first | (go_simp; done) | (go_simp; rfl)); intro g6 vg6 H7z; clear H6; have z0 := H7z.cell 5 rfl 0 (v := .string ⟨#[]⟩) rfl; have z1 := H7z.cell 5 rfl 1 (v := .string ⟨#[]⟩) rfl; have z2 := H7z.cell 5 rfl 2 (v := .bool false) rfl; have uz0 := H7z.unfrozen 5 rfl 0; have uz1 := H7z.unfrozen 5 rfl 1; have uz2 := H7z.unfrozen 5 rfl 2; have H7 := Hp.box_sets (i := 4) (p := 5) [.string x.f0, .string x.f1, .bool x.f2] 0 _ _ _ H7z rfl rfl; simp only [sets, Nat.zero_add, Nat.reduceAdd] at H7))
    clear z0 z1 z2 uz0 uz1 uz2 H7z
    generalize ((vg6.setCell ⟨g6, 0, none⟩ (.string x.f0)).setCell ⟨g6, 1, none⟩ (.string x.f1)).setCell ⟨g6, 2, none⟩ (.bool x.f2) = w5 at H7 ⊢
    have y0 := H7.cell 2 rfl 0 (v := .pointer (some ⟨rb, 0, none⟩)) rfl
    have y1 := H7.cell 2 rfl 1 (v := .int .i64 0) rfl
    have y2 := H7.cell 4 rfl 0 (v := .slice A (dr b a1).length c) rfl
    have k0 := H7.cell 5 rfl 0 (v := .string x.f0) rfl
    have k1 := H7.cell 5 rfl 1 (v := .string x.f1) rfl
    have k2 := H7.cell 5 rfl 2 (v := .bool x.f2) rfl
    have r0 := H7.cell 3 rfl 0 (v := .string ⟨#[]⟩) rfl
    have ur0 := H7.unfrozen 3 rfl 0
    have r1 := H7.cell 3 rfl 1 (v := .string ⟨#[]⟩) rfl
    have ur1 := H7.unfrozen 3 rfl 1
    have r2 := H7.cell 3 rfl 2 (v := .bool false) rfl
    have ur2 := H7.unfrozen 3 rfl 2
    have n1 := apart H7 3 2 rfl rfl (by decide)
    have n2 := apart H7 3 4 rfl rfl (by decide)
    have n3 := apart H7 3 5 rfl rfl (by decide)
    have n1' := n1.symm
    have n2' := n2.symm
    have n3' := n3.symm
    go_wp2
    go_region
    go_wp2
    have H8 := (((H7.box_set 3 rfl rfl 0 (.string x.f0)).box_set 3 rfl rfl 1 (.string x.f1)).box_set 3 rfl rfl 2 (.bool x.f2)).drew
    have c0' := H8.cell 3 rfl 0 (v := .string x.f0) rfl
    have c1' := H8.cell 3 rfl 1 (v := .string x.f1) rfl
    have c2' := H8.cell 3 rfl 2 (v := .bool x.f2) rfl
    refine bodyPost_ret (v := .tuple #[.agg #[.string x.f0, .string x.f1, .bool x.f2], .slice A (dr b a1).length c, .int .i64 0]) (by simp [results, Try.f45, go_sem, c0', c1', c2']) rfl ⟨_, _, rfl, H8.below 0 rfl (fun _ h => h)⟩
  · simp only [if_neg he]
    have q1 : (e1 != 0) = true := bne_iff_ne.mpr he
    have q2 : (e1 == 0) = false := beq_eq_false_iff_ne.mpr he
    go_enter Try.func45, Try.ntmps45
    go_upto_region 3 with (first
      | ((with_reducible refine gate_dst (N := 2) rfl ?_); refine Hp.at_box H 3 ?hg (N := 2) ?hd (cs := #[.string ⟨#[]⟩, .string ⟨#[]⟩, .bool false]) (t := 33) ?hr ?_; (case hd => rfl); (case hg => rfl); (case hr => first | (go_simp; done) | (go_simp; rfl)); intro g2 w1 H1; clear H)
      | ((with_reducible refine gate_dst (N := 9) rfl ?_); refine Hp.at_box H1 2 ?hg (N := 9) ?hd (cs := #[.slice A0 b.length c0]) (t := 95) ?hr ?_; (case hd => rfl); (case hg => rfl); (case hr => first | (go_simp; done) | (go_simp; rfl)); intro rb w2 H2; clear H1)
      | ((with_reducible refine gate_dst (N := 11) rfl ?_); refine Hp.at_box H2 1 ?hg (N := 11) ?hd (cs := #[.pointer (some ⟨rb, 0, none⟩), .int .i64 0]) (t := 97) ?hr ?_; (case hd => rfl); (case hg => rfl); (case hr => first | (go_simp; done) | (go_simp; rfl)); intro p w3 H3'; have H3 : Hp w w3 [(0, Asn.old w (fun _ => False)), (0, Asn.rd U8 A0 b.length b), (1, isTk p A0 b 0 0), (3, Asn.box g2 #[.string ⟨#[]⟩, .string ⟨#[]⟩, .bool false] 33)] := (((H3'.join 4 3 rfl rfl (by decide) rfl rfl).imp 4 (A' := isTk p A0 b 0 0) rfl (fun S h => ⟨(rb, A0, c0), ⟨hc, leads_refl A0 b⟩, h⟩)).keep [0, 1, 4, 2]); clear H2 H3')
      | (go_at_call 61; refine (H3.call (TW.out p) 2 rfl rfl (fun lab h => (Asn.rd U8 A0 _ _).mono (h.get (p := 1) rfl) (fun k _ hk => by have h2 : lab k = 0 := hk; omega))).mono ?_; rintro e' w4 ⟨r, rfl, H'⟩; obtain rfl := H'.fact 2 rfl (fun S h => h.1); have H4' := H'.imp 2 (A' := isTk p A0 b a1 e1) rfl (fun S h => h.2); clear H' H3; obtain ⟨⟨rb, A, c⟩, H5⟩ := H4'.open_ 2 rfl; have H6' := (H5.imp 2 (A' := Asn.star (Asn.box p #[.pointer (some ⟨rb, 0, none⟩), .int .i64 e1] 97) (Asn.box rb #[.slice A (dr b a1).length c] 95)) rfl (fun S h => h.2)).split 2 2 rfl rfl (by decide); clear H4' H5; have H6 : Hp w w4 [(0, Asn.old w (fun _ => False)), (0, Asn.rd U8 A0 b.length b), (1, Asn.box p #[.pointer (some ⟨rb, 0, none⟩), .int .i64 e1] 97), (3, Asn.box g2 #[.string ⟨#[]⟩, .string ⟨#[]⟩, .bool false] 33), (2, Asn.box rb #[.slice A (dr b a1).length c] 95)] := H6'; clear H6')
      | ((with_reducible refine gate_dst (N := 6) rfl ?_); refine Hp.at_box H6 4 ?hg (N := 6) ?hd (cs := #[.string ⟨#[]⟩, .string ⟨#[]⟩, .bool false]) (t := 33) ?hr ?_; (case hd => rfl); (case hg => rfl); (case hr => first | (go_simp; done) | (go_simp; rfl)); intro g6 vg6 H7z; clear H6; have z0 := H7z.cell 5 rfl 0 (v := .string ⟨#[]⟩) rfl; have z1 := H7z.cell 5 rfl 1 (v := .string ⟨#[]⟩) rfl; have z2 := H7z.cell 5 rfl 2 (v := .bool false) rfl; have uz0 := H7z.unfrozen 5 rfl 0; have uz1 := H7z.unfrozen 5 rfl 1; have uz2 := H7z.unfrozen 5 rfl 2; have H7 := Hp.box_sets (i := 4) (p := 5) [.string x.f0, .string x.f1, .bool x.f2] 0 _ _ _ H7z rfl rfl; simp only [sets, Nat.zero_add, Nat.reduceAdd] at H7))
    clear z0 z1 z2 uz0 uz1 uz2 H7z
    generalize ((vg6.setCell ⟨g6, 0, none⟩ (.string x.f0)).setCell ⟨g6, 1, none⟩ (.string x.f1)).setCell ⟨g6, 2, none⟩ (.bool x.f2) = w5 at H7 ⊢
    have y0 := H7.cell 2 rfl 0 (v := .pointer (some ⟨rb, 0, none⟩)) rfl
    have y1 := H7.cell 2 rfl 1 (v := .int .i64 e1) rfl
    have y2 := H7.cell 4 rfl 0 (v := .slice A (dr b a1).length c) rfl
    have k0 := H7.cell 5 rfl 0 (v := .string x.f0) rfl
    have k1 := H7.cell 5 rfl 1 (v := .string x.f1) rfl
    have k2 := H7.cell 5 rfl 2 (v := .bool x.f2) rfl
    have r0 := H7.cell 3 rfl 0 (v := .string ⟨#[]⟩) rfl
    have ur0 := H7.unfrozen 3 rfl 0
    have r1 := H7.cell 3 rfl 1 (v := .string ⟨#[]⟩) rfl
    have ur1 := H7.unfrozen 3 rfl 1
    have r2 := H7.cell 3 rfl 2 (v := .bool false) rfl
    have ur2 := H7.unfrozen 3 rfl 2
    have n1 := apart H7 3 2 rfl rfl (by decide)
    have n2 := apart H7 3 4 rfl rfl (by decide)
    have n3 := apart H7 3 5 rfl rfl (by decide)
    have n1' := n1.symm
    have n2' := n2.symm
    have n3' := n3.symm
    go_wp2
    go_region
    go_wp2
    have H8 := (((H7.box_set 3 rfl rfl 0 (.string ⟨#[]⟩)).box_set 3 rfl rfl 1 (.string ⟨#[]⟩)).box_set 3 rfl rfl 2 (.bool false)).drew
    have c0' := H8.cell 3 rfl 0 (v := .string ⟨#[]⟩) rfl
    have c1' := H8.cell 3 rfl 1 (v := .string ⟨#[]⟩) rfl
    have c2' := H8.cell 3 rfl 2 (v := .bool false) rfl
    refine bodyPost_ret (v := .tuple #[.agg #[.string ⟨#[]⟩, .string ⟨#[]⟩, .bool false], .slice A0 b.length c0, .int .i64 e1]) (by simp [results, Try.f45, go_sem, c0', c1', c2']) rfl ⟨_, _, rfl, H8.below 0 rfl (fun _ h => h)⟩

end Go.Proofs.Ytkcdmoghnoodmaa.Tw

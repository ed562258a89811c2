/-
Of the row ValidDoes: printed walks and plain laws, merged (wip/claim2.py).
-/
import Derived.Test.YtgbmlkoblcfceaaQValidDoes3
import Derived.Test.YtgbmlkoblcfceaaQValidDoes9
import Derived.Test.YtgbmlkoblcfceaaQValidDoes23
import Derived.Test.YtgbmlkoblcfceaaQValidDoes24
import Derived.Test.YtgbmlkoblcfceaaQValidDoes25
import Derived.Sort.QuietIn
set_option linter.unusedVariables false
set_option linter.unusedSimpArgs false
namespace Go.Proofs.Ytgbmlkoblcfceaa.Vd
open Go.RowKit Go.Shelf Go.Proofs.Ytgbmlkoblcfceaa.B Go.Proofs.YtgbmlkoblcfceaaW.PrintWords Go.Proofs.YtgbmlkoblcfceaaW.PrintLast Go.Proofs.YtgbmlkoblcfceaaW.PrintMore Go.Proofs.YtgbmlkoblcfceaaW.Mine Go.Proofs.YtgbmlkoblcfceaaW.Hp
attribute [local go_sem] Oper.semAt_some
theorem rd79_map (l : List S67) (i : Nat) : rd_T79 (l.map to79) (i : Int) = to79 (rd_T67 l (i : Int)) := by
  unfold rd_T79 rd_T67
  rw [Int.toNat_natCast, List.getD_eq_getElem?_getD, List.getD_eq_getElem?_getD, List.getElem?_map]
  cases l[i]? <;> rfl
def reT.T5 : Bool × List (List Nat × List Nat) := (true, [([], []), ([], []), ([1], [1]), ([2], [2]), ([3], [3]), ([4], [4]), ([0, 5], [0, 5]), ([6], [6]), ([7], [7]), ([7], [7]), ([9, 7], [7, 9]), ([10, 7], [7, 10]), ([11, 7], [7, 11]), ([7], [7]), ([12, 13, 7], [7, 12, 13]), ([14, 7], [7, 14]), ([15, 7], [7, 15]), ([8, 16, 7], [7, 8, 16]), ([7, 17], [7, 17]), ([18, 7], [18]), ([19], [19]), ([19], [19]), ([21, 19], [19, 21]), ([22, 19], [19, 22]), ([23, 19], [19, 23]), ([19], [19]), ([24, 25, 19], [19, 24, 25]), ([26, 19], [19, 26]), ([27, 19], [19, 27]), ([20, 28, 19, 19], [19, 20, 28]), ([29, 19], [19, 29]), ([19, 30], [19, 30])])
def reT.B5 : List Nat := [0, 0, 2, 6, 14, 30, 63, 127, 255, 255, 767, 1791, 3839, 255, 16127, 32511, 65279, 131071, 262143, 524287, 1048575, 1048575, 3145727, 7340031, 15728639, 1048575, 66060287, 133169151, 267386879, 536870911, 1073741823, 2147483647]
theorem reT.tab5 : rtab .any (opsOf Try.f29 5) = reT.T5 := by kernel_rfl
theorem reT.bits5 : waitsOk reT.T5.2 reT.B5 = true := by kernel_rfl
set_option maxHeartbeats 16000000 in
set_option maxRecDepth 100000 in
theorem recent_tr (b g : Nat) (s : V) (hl : s.l.length ≤ 4096) (hsm : ∀ x ∈ s.l, x.f1.length < 8796093022208) :
    Tr Try.prog 29 #[.pointer (some ⟨b, 0, none⟩), .pointer (some ⟨g, 0, none⟩)] Asn.top (Asn.star (isV b s) (isW g s)) (fun r => Asn.and (Asn.lift (r = .bool true)) (Asn.star (isV b s) (isW g s))) := by
  refine Tr.intro fun w U H0 => ?_
  have HS : Aside0 (Hp w w [(0, Asn.old w U), (0, Asn.top), (1, isV b s), (2, isW g s)]) := ⟨H0.split 2 2 rfl rfl (by decide)⟩
  have HL := Aside0.mk hl
  have HSM := Aside0.mk hsm
  clear H0 hl hsm
  refine (callsIn_wide (n := 3)).1 (callsIn_of_wp_marks Try.func29 rfl trivial ?_ rfl)
  rw [wpIn_wide]
  simp only [Try.ntmps29, List.size_toArray, List.length_cons, List.length_nil, Nat.reduceAdd, Nat.reduceSub, Array.replicate_succ, Array.replicate_zero, List.push_toArray, List.append_toArray, List.nil_append, List.cons_append]
  go_wp2_with (first
    | ((with_reducible refine gate_dst (N := 3) rfl ?_); refine Hp.at_box HS.out 3 ?hg (N := 3) ?hd (cs := #[.pointer (some ⟨g, 0, none⟩)]) (t := 53) ?hr ?_; (case hd => rfl); (case hg => rfl); (case hr => first | (go_simp; done) | (go_simp; rfl)); intro g3 w1 H1)
    | ((with_reducible refine gate_dst (N := 4) rfl ?_); refine Hp.at_box H1 4 ?hg (N := 4) ?hd (cs := #[.bool false]) (t := 4) ?hr ?_; (case hd => rfl); (case hg => rfl); (case hr => first | (go_simp; done) | (go_simp; rfl)); intro g4 w2 H2; clear H1)
    | ((with_reducible refine gate_dst (N := 5) rfl ?_); refine Hp.at_box H2 5 ?hg (N := 5) ?hd (cs := #[.int .i64 0]) (t := 3) ?hr ?_; (case hd => rfl); (case hg => rfl); (case hr => first | (go_simp; done) | (go_simp; rfl)); intro g5 w3 H3; clear H2; have y0 := H3.cell 6 rfl 0 (v := .int .i64 0) rfl; have u0 := H3.unfrozen 6 rfl 0)
    | (go_at_call 20; refine (recent_hp (H3.box_set 6 rfl rfl 0 (.int .i64 0)) 2 6 rfl rfl (by decide) (by have := HL.out; omega)).mono ?_; rintro e w10 ⟨g6, A6, c6, rfl, hc6, H10⟩; clear H3 y0 u0))
  refine wpIn_wide.1 (rf_walk (n := 3) (by omega) (gf := 39) (lb := #[.pointer (some ⟨g6, 0, none⟩)]) rfl (enters_of Try.func39 (by kernel_rfl) rfl) ?_)
  intro rec hYield
  have H12 := obj_new (obj_new H10 7 (.deferred (some []))) 8 (.loop (rec .ready none))
  rw [World.size_alloc] at H12
  clear H10
  refine (rec39_in (w10.heap.size + 1) g6 1 A6 c6 s.l hc6 HSM.out (fun i W => Hp w W [(0, Asn.old w U), (0, Asn.top), (1, isV b s), (2, isW g s), (3, Asn.box g3 #[.pointer (some ⟨g, 0, none⟩)] 53), (4, Asn.box g4 #[.bool false] 4), (5, Asn.box g5 #[.int .i64 i] 3), (6, Asn.box g6 #[.slice A6 s.l.length c6] 59), (1, Asn.rd k67 A6 s.l.length s.l), (7, Asn.obj w10.heap.size (.deferred (some []))), (8, Asn.obj (w10.heap.size + 1) (.loop (rec .ready none)))]) (fun _ _ => False) _ (fun _ _ H => ⟨H.cell 7 rfl 0 rfl, H.reads 8 rfl⟩) (fun _ _ _ H hb => H.same hb) ?_ H12).mono ?_
  · intro i W0 W1 v hi HJ hB hR
    have H13 := HJ.made 9 hB hR
    have hx : (rd_T67 s.l (i : Int)).f1.length < 8796093022208 := HSM.out _ (Sl.getD_in _ (by simpa using hi))
    have hm := rd79_map s.l i
    have hiz : (i : Int) < (s.l.length : Int) := by omega
    have H14 := H13.put_obj 10 rfl rfl (.loop { rec .ready none with state := .busy })
    obtain ⟨A9, c9, hw9, hC9, hc9⟩ := H14.fact 3 rfl (fun _ h => isW_see h)
    obtain ⟨ad, A2, c2, e2, x0, x1, l2, g2⟩ := at_T79 hC9 (i : Int) (by omega) hiz
    cases e2
    rw [hm] at x0 x1 l2 g2
    obtain ⟨Av, cv, rfl⟩ := Kd.R_slice hR
    obtain ⟨kk, hkk⟩ := (Ky.same_ev (rd_T67 s.l (i : Int)).f1 (by omega)).rounds
    have HKK := Aside0.mk hkk
    generalize rd_T67 s.l (i : Int) = x at H13 H14 hR hx x0 x1 l2 g2 HKK ⊢
    have hload := H13.obj_at 10 rfl
    have z0 := hw9.c0
    clear hR HJ hB H12 hC9 hw9 hm H13 hkk
    refine hYield #[.int .i64 x.f0, .slice Av x.f1.length cv] W1 _ _ rfl hload (fun K hK => by gi_wp2; exact hK) ?_
    have y5 := H14.cell 6 rfl 0 (v := .int .i64 i) rfl
    have u5 := H14.unfrozen 6 rfl 0
    have y3 := H14.cell 4 rfl 0 (v := .pointer (some ⟨g, 0, none⟩)) rfl
    obtain ⟨_, hcv, hCv⟩ := H14.row_C 11 rfl
    have HCV := Aside0.mk hCv
    have HCG := Aside0.mk (show Kd.C Kd.string _ A2 x.f1.length x.f1 from g2)
    have p1 := eq_true (show (0 : Int) ≤ (i : Int) by omega)
    have d1 : decide ((s.l.length : Int) ≤ (i : Int)) = false := decide_eq_false (by omega)
    have d2 : decide (s.l.length ≤ i) = false := decide_eq_false (by omega)
    have hlm := HL.out
    have dr : ∀ {W : World}, Below W.heap.size W W.drew := fun {W} => below_drew (Below.refl _ _)
    rw [Int.toNat_natCast] at x0 x1
    clear hload hYield hCv g2
    gi_wp2
    rename_i K2 hK2 Q2
    refine wpIn_mono (Q := fun e a w => match e with | .panic _ => False | .normal => K2 a w | _ => False) ?_ ?_
    rotate_left
    · rintro e a w0 h0
      cases e with
      | normal => exact h0
      | _ => exact h0.elim
    refine startR_ (m := 32) (S := fun w' => w'.cell? ⟨g5, 0, none⟩ = some (.int .i64 (i : Int)) ∧ w'.cell? ⟨g3, 0, none⟩ = some (.pointer (some ⟨g, 0, none⟩)) ∧ w'.cell? ⟨g, 0, none⟩ = some (.slice (some ad) s.l.length c9) ∧ w'.cell? (ad.add (i * 2)) = some (.int .i64 x.f0) ∧ w'.cell? ⟨(ad.add (i * 2)).block, (ad.add (i * 2)).off + 1, none⟩ = some (.slice A2 x.f1.length c2)) (ds := []) #[false, false, false, false, false, false, false, false, false, false, false, false, false, false, false, false, false, false, false, false, false, false, false, false, false, false, false, false, false, false, false, false] (by kernel_rfl) rfl rfl (by kernel_rfl) (by rintro ⟨a, w, h⟩; exact h) ⟨bcc dr y5, bcc dr y3, bcc dr z0, bcc dr x0, bcc dr x1⟩ (fun hHeld => ?_); refine with_tabW reT.tab5 reT.bits5 (fun HT_ HW_ => ?_)
    refine take_ (i := 0) (N := some 12) (v := ?_) (a' := ?_) #[true, false, false, false, false, false, false, false, false, false, false, false, false, false, false, false, false, false, false, false, false, false, false, false, false, false, false, false, false, false, false, false] rfl rfl (take_ofW HT_.out HW_.out (by kernel_rfl)) (fun _ _ _ h => h) (Or.inl ⟨by rfl, ?_⟩) hHeld ?_ ?_
    rotate_left
    · rintro w' ⟨s0, s1, s2, s3, s4⟩
      go_simp
      with_reducible rfl
    rotate_left
    · simp only [Act.put, List.setIfInBounds_toArray, List.set_cons_zero, List.set_cons_succ, i64_w, i32_w]
      rfl
    refine take_ (i := 1) (N := some 13) (v := ?_) (a' := ?_) #[true, true, false, false, false, false, false, false, false, false, false, false, false, false, false, false, false, false, false, false, false, false, false, false, false, false, false, false, false, false, false, false] rfl rfl (take_ofW HT_.out HW_.out (by kernel_rfl)) (fun _ _ _ h => h) (Or.inl ⟨by rfl, ?_⟩) hHeld ?_ ?_
    rotate_left
    · rintro w' ⟨s0, s1, s2, s3, s4⟩
      go_simp
      with_reducible rfl
    rotate_left
    · simp only [Act.put, List.setIfInBounds_toArray, List.set_cons_zero, List.set_cons_succ, i64_w, i32_w]
      rfl
    refine pure_ (i := 2) (N := some 14) (v := ?_) (a' := ?_) #[true, true, true, false, false, false, false, false, false, false, false, false, false, false, false, false, false, false, false, false, false, false, false, false, false, false, false, false, false, false, false, false] rfl rfl (any_of HT_.out (by kernel_rfl)) (fun _ _ _ h => h) (Or.inl ⟨by rfl, ?_⟩) ?_ ?_
    rotate_left
    · intro w'
      go_simp
      with_reducible rfl
    rotate_left
    · simp only [Act.put, List.setIfInBounds_toArray, List.set_cons_zero, List.set_cons_succ, i64_w, i32_w]
      rfl
    refine pure_ (i := 3) (N := some 15) (v := ?_) (a' := ?_) #[true, true, true, true, false, false, false, false, false, false, false, false, false, false, false, false, false, false, false, false, false, false, false, false, false, false, false, false, false, false, false, false] rfl rfl (any_of HT_.out (by kernel_rfl)) (fun _ _ _ h => h) (Or.inl ⟨by rfl, ?_⟩) ?_ ?_
    rotate_left
    · intro w'
      go_simp
      with_reducible rfl
    rotate_left
    · simp only [Act.put, List.setIfInBounds_toArray, List.set_cons_zero, List.set_cons_succ, i64_w, i32_w]
      rfl
    refine take_ (i := 4) (N := some 16) (v := ?_) (a' := ?_) #[true, true, true, true, true, false, false, false, false, false, false, false, false, false, false, false, false, false, false, false, false, false, false, false, false, false, false, false, false, false, false, false] rfl rfl (take_ofW HT_.out HW_.out (by kernel_rfl)) (fun _ _ _ h => h) (Or.inl ⟨by rfl, ?_⟩) hHeld ?_ ?_
    rotate_left
    · rintro w' ⟨s0, s1, s2, s3, s4⟩
      go_simp
      with_reducible rfl
    rotate_left
    · simp only [Act.put, List.setIfInBounds_toArray, List.set_cons_zero, List.set_cons_succ, i64_w, i32_w]
      rfl
    refine pure_ (i := 5) (N := some 17) (v := ?_) (a' := ?_) #[true, true, true, true, true, true, false, false, false, false, false, false, false, false, false, false, false, false, false, false, false, false, false, false, false, false, false, false, false, false, false, false] rfl rfl (any_of HT_.out (by kernel_rfl)) (fun _ _ _ h => h) (Or.inl ⟨by rfl, ?_⟩) ?_ ?_
    rotate_left
    · intro w'
      go_simp
      with_reducible rfl
    rotate_left
    · simp only [Act.put, List.setIfInBounds_toArray, List.set_cons_zero, List.set_cons_succ, i64_w, i32_w]
      rfl
    refine pure_ (i := 6) (N := some 18) (v := ?_) (a' := ?_) #[true, true, true, true, true, true, true, false, false, false, false, false, false, false, false, false, false, false, false, false, false, false, false, false, false, false, false, false, false, false, false, false] rfl rfl (any_of HT_.out (by kernel_rfl)) (fun _ _ _ h => h) (Or.inl ⟨by rfl, ?_⟩) ?_ ?_
    rotate_left
    · intro w'
      go_simp
      with_reducible rfl
    rotate_left
    · simp only [Act.put, List.setIfInBounds_toArray, List.set_cons_zero, List.set_cons_succ, i64_w, i32_w]
      rfl
    refine pure_ (i := 7) (N := some 19) (v := ?_) (a' := ?_) #[true, true, true, true, true, true, true, true, false, false, false, false, false, false, false, false, false, false, false, false, false, false, false, false, false, false, false, false, false, false, false, false] rfl rfl (any_of HT_.out (by kernel_rfl)) (fun _ _ _ h => h) (Or.inl ⟨by rfl, ?_⟩) ?_ ?_
    rotate_left
    · intro w'
      go_simp
      with_reducible rfl
    rotate_left
    · simp only [Act.put, List.setIfInBounds_toArray, List.set_cons_zero, List.set_cons_succ, i64_w, i32_w]
      rfl
    refine pure_ (i := 8) (N := some 20) (v := ?_) (a' := ?_) #[true, true, true, true, true, true, true, true, true, false, false, false, false, false, false, false, false, false, false, false, false, false, false, false, false, false, false, false, false, false, false, false] rfl rfl (any_of HT_.out (by kernel_rfl)) (fun _ _ _ h => h) (Or.inl ⟨by rfl, ?_⟩) ?_ ?_
    rotate_left
    · intro w'
      go_simp
      with_reducible rfl
    rotate_left
    · simp only [Act.put, List.setIfInBounds_toArray, List.set_cons_zero, List.set_cons_succ, i64_w, i32_w]
      rfl
    refine take_ (i := 9) (N := some 21) (v := ?_) (a' := ?_) #[true, true, true, true, true, true, true, true, true, true, false, false, false, false, false, false, false, false, false, false, false, false, false, false, false, false, false, false, false, false, false, false] rfl rfl (take_ofW HT_.out HW_.out (by kernel_rfl)) (fun _ _ _ h => h) (Or.inl ⟨by rfl, ?_⟩) hHeld ?_ ?_
    rotate_left
    · rintro w' ⟨s0, s1, s2, s3, s4⟩
      go_simp
      with_reducible rfl
    rotate_left
    · simp only [Act.put, List.setIfInBounds_toArray, List.set_cons_zero, List.set_cons_succ, i64_w, i32_w]
      rfl
    refine pure_ (i := 10) (N := some 22) (v := ?_) (a' := ?_) #[true, true, true, true, true, true, true, true, true, true, true, false, false, false, false, false, false, false, false, false, false, false, false, false, false, false, false, false, false, false, false, false] rfl rfl (any_of HT_.out (by kernel_rfl)) (fun _ _ _ h => h) (Or.inl ⟨by rfl, ?_⟩) ?_ ?_
    rotate_left
    · intro w'
      go_simp
      with_reducible rfl
    rotate_left
    · simp only [Act.put, List.setIfInBounds_toArray, List.set_cons_zero, List.set_cons_succ, i64_w, i32_w]
      rfl
    refine pure_ (i := 11) (N := some 23) (v := ?_) (a' := ?_) #[true, true, true, true, true, true, true, true, true, true, true, true, false, false, false, false, false, false, false, false, false, false, false, false, false, false, false, false, false, false, false, false] rfl rfl (any_of HT_.out (by kernel_rfl)) (fun _ _ _ h => h) (Or.inl ⟨by rfl, ?_⟩) ?_ ?_
    rotate_left
    · intro w'
      go_simp
      with_reducible rfl
    rotate_left
    · simp only [Act.put, List.setIfInBounds_toArray, List.set_cons_zero, List.set_cons_succ, i64_w, i32_w]
      rfl
    refine take_ (i := 12) (N := some 24) (v := ?_) (a' := ?_) #[true, true, true, true, true, true, true, true, true, true, true, true, true, false, false, false, false, false, false, false, false, false, false, false, false, false, false, false, false, false, false, false] rfl rfl (take_ofW HT_.out HW_.out (by kernel_rfl)) (fun _ _ _ h => h) (Or.inl ⟨by rfl, ?_⟩) hHeld ?_ ?_
    rotate_left
    · rintro w' ⟨s0, s1, s2, s3, s4⟩
      go_simp
      with_reducible rfl
    rotate_left
    · simp only [Act.put, List.setIfInBounds_toArray, List.set_cons_zero, List.set_cons_succ, i64_w, i32_w]
      rfl
    refine take_ (i := 13) (N := some 25) (v := ?_) (a' := ?_) #[true, true, true, true, true, true, true, true, true, true, true, true, true, true, false, false, false, false, false, false, false, false, false, false, false, false, false, false, false, false, false, false] rfl rfl (take_ofW HT_.out HW_.out (by kernel_rfl)) (fun _ _ _ h => h) (Or.inl ⟨by rfl, ?_⟩) hHeld ?_ ?_
    rotate_left
    · rintro w' ⟨s0, s1, s2, s3, s4⟩
      go_simp
      with_reducible rfl
    rotate_left
    · simp only [Act.put, List.setIfInBounds_toArray, List.set_cons_zero, List.set_cons_succ, i64_w, i32_w]
      rfl
    refine pure_ (i := 14) (N := some 26) (v := ?_) (a' := ?_) #[true, true, true, true, true, true, true, true, true, true, true, true, true, true, true, false, false, false, false, false, false, false, false, false, false, false, false, false, false, false, false, false] rfl rfl (any_of HT_.out (by kernel_rfl)) (fun _ _ _ h => h) (Or.inl ⟨by rfl, ?_⟩) ?_ ?_
    rotate_left
    · intro w'
      go_simp
      with_reducible rfl
    rotate_left
    · simp only [Act.put, List.setIfInBounds_toArray, List.set_cons_zero, List.set_cons_succ, i64_w, i32_w]
      rfl
    refine pure_ (i := 15) (N := some 27) (v := ?_) (a' := ?_) #[true, true, true, true, true, true, true, true, true, true, true, true, true, true, true, true, false, false, false, false, false, false, false, false, false, false, false, false, false, false, false, false] rfl rfl (any_of HT_.out (by kernel_rfl)) (fun _ _ _ h => h) (Or.inl ⟨by rfl, ?_⟩) ?_ ?_
    rotate_left
    · intro w'
      go_simp
      with_reducible rfl
    rotate_left
    · simp only [Act.put, List.setIfInBounds_toArray, List.set_cons_zero, List.set_cons_succ, i64_w, i32_w]
      rfl
    refine take_ (i := 16) (N := some 28) (v := ?_) (a' := ?_) #[true, true, true, true, true, true, true, true, true, true, true, true, true, true, true, true, true, false, false, false, false, false, false, false, false, false, false, false, false, false, false, false] rfl rfl (take_ofW HT_.out HW_.out (by kernel_rfl)) (fun _ _ _ h => h) (Or.inl ⟨by rfl, ?_⟩) hHeld ?_ ?_
    rotate_left
    · rintro w' ⟨s0, s1, s2, s3, s4⟩
      go_simp
      with_reducible rfl
    rotate_left
    · simp only [Act.put, List.setIfInBounds_toArray, List.set_cons_zero, List.set_cons_succ, i64_w, i32_w]
      rfl
    refine pure_ (i := 17) (N := some 29) (v := ?_) (a' := ?_) #[true, true, true, true, true, true, true, true, true, true, true, true, true, true, true, true, true, true, false, false, false, false, false, false, false, false, false, false, false, false, false, false] rfl rfl (any_of HT_.out (by kernel_rfl)) (fun _ _ _ h => h) (Or.inl ⟨by rfl, ?_⟩) ?_ ?_
    rotate_left
    · intro w'
      go_simp
      with_reducible rfl
    rotate_left
    · simp only [Act.put, List.setIfInBounds_toArray, List.set_cons_zero, List.set_cons_succ, i64_w, i32_w]
      rfl
    refine pure_ (i := 18) (N := some 30) (v := ?_) (a' := ?_) #[true, true, true, true, true, true, true, true, true, true, true, true, true, true, true, true, true, true, true, false, false, false, false, false, false, false, false, false, false, false, false, false] rfl rfl (any_of HT_.out (by kernel_rfl)) (fun _ _ _ h => h) (Or.inl ⟨by rfl, ?_⟩) ?_ ?_
    rotate_left
    · intro w'
      go_simp
      with_reducible rfl
    rotate_left
    · simp only [Act.put, List.setIfInBounds_toArray, List.set_cons_zero, List.set_cons_succ, i64_w, i32_w]
      rfl
    refine pure_ (i := 19) (N := some 31) (v := ?_) (a' := ?_) #[true, true, true, true, true, true, true, true, true, true, true, true, true, true, true, true, true, true, true, true, false, false, false, false, false, false, false, false, false, false, false, false] rfl rfl (any_of HT_.out (by kernel_rfl)) (fun _ _ _ h => h) (Or.inl ⟨by rfl, ?_⟩) ?_ ?_
    rotate_left
    · intro w'
      go_simp
      with_reducible rfl
    rotate_left
    · simp only [Act.put, List.setIfInBounds_toArray, List.set_cons_zero, List.set_cons_succ, i64_w, i32_w]
      rfl
    refine pure_ (i := 20) (N := some 32) (v := ?_) (a' := ?_) #[true, true, true, true, true, true, true, true, true, true, true, true, true, true, true, true, true, true, true, true, true, false, false, false, false, false, false, false, false, false, false, false] rfl rfl (any_of HT_.out (by kernel_rfl)) (fun _ _ _ h => h) (Or.inl ⟨by rfl, ?_⟩) ?_ ?_
    rotate_left
    · intro w'
      go_simp
      with_reducible rfl
    rotate_left
    · simp only [Act.put, List.setIfInBounds_toArray, List.set_cons_zero, List.set_cons_succ, i64_w, i32_w]
      rfl
    refine take_ (i := 21) (N := some 33) (v := ?_) (a' := ?_) #[true, true, true, true, true, true, true, true, true, true, true, true, true, true, true, true, true, true, true, true, true, true, false, false, false, false, false, false, false, false, false, false] rfl rfl (take_ofW HT_.out HW_.out (by kernel_rfl)) (fun _ _ _ h => h) (Or.inl ⟨by rfl, ?_⟩) hHeld ?_ ?_
    rotate_left
    · rintro w' ⟨s0, s1, s2, s3, s4⟩
      go_simp
      with_reducible rfl
    rotate_left
    · simp only [Act.put, List.setIfInBounds_toArray, List.set_cons_zero, List.set_cons_succ, i64_w, i32_w]
      rfl
    refine pure_ (i := 22) (N := some 34) (v := ?_) (a' := ?_) #[true, true, true, true, true, true, true, true, true, true, true, true, true, true, true, true, true, true, true, true, true, true, true, false, false, false, false, false, false, false, false, false] rfl rfl (any_of HT_.out (by kernel_rfl)) (fun _ _ _ h => h) (Or.inl ⟨by rfl, ?_⟩) ?_ ?_
    rotate_left
    · intro w'
      go_simp
      with_reducible rfl
    rotate_left
    · simp only [Act.put, List.setIfInBounds_toArray, List.set_cons_zero, List.set_cons_succ, i64_w, i32_w]
      rfl
    refine pure_ (i := 23) (N := some 35) (v := ?_) (a' := ?_) #[true, true, true, true, true, true, true, true, true, true, true, true, true, true, true, true, true, true, true, true, true, true, true, true, false, false, false, false, false, false, false, false] rfl rfl (any_of HT_.out (by kernel_rfl)) (fun _ _ _ h => h) (Or.inl ⟨by rfl, ?_⟩) ?_ ?_
    rotate_left
    · intro w'
      go_simp
      with_reducible rfl
    rotate_left
    · simp only [Act.put, List.setIfInBounds_toArray, List.set_cons_zero, List.set_cons_succ, i64_w, i32_w]
      rfl
    refine take_ (i := 24) (N := some 36) (v := ?_) (a' := ?_) #[true, true, true, true, true, true, true, true, true, true, true, true, true, true, true, true, true, true, true, true, true, true, true, true, true, false, false, false, false, false, false, false] rfl rfl (take_ofW HT_.out HW_.out (by kernel_rfl)) (fun _ _ _ h => h) (Or.inl ⟨by rfl, ?_⟩) hHeld ?_ ?_
    rotate_left
    · rintro w' ⟨s0, s1, s2, s3, s4⟩
      go_simp
      with_reducible rfl
    rotate_left
    · simp only [Act.put, List.setIfInBounds_toArray, List.set_cons_zero, List.set_cons_succ, i64_w, i32_w]
      rfl
    refine take_ (i := 25) (N := some 37) (v := ?_) (a' := ?_) #[true, true, true, true, true, true, true, true, true, true, true, true, true, true, true, true, true, true, true, true, true, true, true, true, true, true, false, false, false, false, false, false] rfl rfl (take_ofW HT_.out HW_.out (by kernel_rfl)) (fun _ _ _ h => h) (Or.inl ⟨by rfl, ?_⟩) hHeld ?_ ?_
    rotate_left
    · rintro w' ⟨s0, s1, s2, s3, s4⟩
      go_simp
      with_reducible rfl
    rotate_left
    · simp only [Act.put, List.setIfInBounds_toArray, List.set_cons_zero, List.set_cons_succ, i64_w, i32_w]
      rfl
    refine pure_ (i := 26) (N := some 38) (v := ?_) (a' := ?_) #[true, true, true, true, true, true, true, true, true, true, true, true, true, true, true, true, true, true, true, true, true, true, true, true, true, true, true, false, false, false, false, false] rfl rfl (any_of HT_.out (by kernel_rfl)) (fun _ _ _ h => h) (Or.inl ⟨by rfl, ?_⟩) ?_ ?_
    rotate_left
    · intro w'
      go_simp
      with_reducible rfl
    rotate_left
    · simp only [Act.put, List.setIfInBounds_toArray, List.set_cons_zero, List.set_cons_succ, i64_w, i32_w]
      rfl
    refine pure_ (i := 27) (N := some 39) (v := ?_) (a' := ?_) #[true, true, true, true, true, true, true, true, true, true, true, true, true, true, true, true, true, true, true, true, true, true, true, true, true, true, true, true, false, false, false, false] rfl rfl (any_of HT_.out (by kernel_rfl)) (fun _ _ _ h => h) (Or.inl ⟨by rfl, ?_⟩) ?_ ?_
    rotate_left
    · intro w'
      go_simp
      with_reducible rfl
    rotate_left
    · simp only [Act.put, List.setIfInBounds_toArray, List.set_cons_zero, List.set_cons_succ, i64_w, i32_w]
      rfl
    refine take_ (i := 28) (N := some 40) (v := ?_) (a' := ?_) #[true, true, true, true, true, true, true, true, true, true, true, true, true, true, true, true, true, true, true, true, true, true, true, true, true, true, true, true, true, false, false, false] rfl rfl (take_ofW HT_.out HW_.out (by kernel_rfl)) (fun _ _ _ h => h) (Or.inl ⟨by rfl, ?_⟩) hHeld ?_ ?_
    rotate_left
    · rintro w' ⟨s0, s1, s2, s3, s4⟩
      go_simp
      with_reducible rfl
    rotate_left
    · simp only [Act.put, List.setIfInBounds_toArray, List.set_cons_zero, List.set_cons_succ, i64_w, i32_w]
      rfl
    refine one_ (i := 29) (N := some 41) #[true, true, true, true, true, true, true, true, true, true, true, true, true, true, true, true, true, true, true, true, true, true, true, true, true, true, true, true, true, true, false, false] rfl rfl (one_of HT_.out (by kernel_rfl)) (by decide) (fun Kx_ hKx_ => ?_)
    refine goes_ Try.func17 (by kernel_rfl) rfl #[.slice Av x.f1.length cv, .slice A2 x.f1.length c2] (by rfl) rfl rfl (by (try simp only [List.map_toArray, List.map_cons, List.map_nil]); first | done | rfl) ?_
    refine (cressetref23_Same.calls kk Av cv x.f1 A2 c2 x.f1 true _ (Kd.C_drew HCV.out) hcv (Kd.C_drew HCG.out) l2 HKK.out).mono ?_
    rintro e w26 ⟨rfl, ⟨nd, rfl⟩⟩
    refine ⟨_, rfl, ?_⟩
    refine hKx_.out _ _ ⟨(bcc (pw_below_drewN dr nd) y5), (bcc (pw_below_drewN dr nd) y3), (bcc (pw_below_drewN dr nd) z0), (bcc (pw_below_drewN dr nd) x0), (bcc (pw_below_drewN dr nd) x1)⟩ (fun hHeld => ?_)
    clear hKx_ Kx_
    refine norm_ (a' := ?_) ?_ ?_
    rotate_left
    · show Act.put _ (some 41) _ = _
      simp only [Act.put, List.setIfInBounds_toArray, List.set_cons_zero, List.set_cons_succ, i64_w, i32_w]
      rfl
    refine pure_ (i := 30) (N := some 42) (v := ?_) (a' := ?_) #[true, true, true, true, true, true, true, true, true, true, true, true, true, true, true, true, true, true, true, true, true, true, true, true, true, true, true, true, true, true, true, false] rfl rfl (any_of HT_.out (by kernel_rfl)) (fun _ _ _ h => h) (Or.inl ⟨by rfl, ?_⟩) ?_ ?_
    rotate_left
    · intro w'
      go_simp
      with_reducible rfl
    rotate_left
    · simp only [Act.put, List.setIfInBounds_toArray, List.set_cons_zero, List.set_cons_succ, i64_w, i32_w]
      rfl
    refine pure_ (i := 31) (N := some 43) (v := ?_) (a' := ?_) #[true, true, true, true, true, true, true, true, true, true, true, true, true, true, true, true, true, true, true, true, true, true, true, true, true, true, true, true, true, true, true, true] rfl rfl (any_of HT_.out (by kernel_rfl)) (fun _ _ _ h => h) (Or.inl ⟨by rfl, ?_⟩) ?_ ?_
    rotate_left
    · intro w'
      go_simp
      with_reducible rfl
    rotate_left
    · simp only [Act.put, List.setIfInBounds_toArray, List.set_cons_zero, List.set_cons_succ, i64_w, i32_w]
      rfl
    refine done_ (done_of HT_.out (by kernel_rfl)) ?_
    show K2 _ _
    clear HT_ HW_ hHeld x0 x1 z0 y3 l2 HCV HCG HKK
    have H15 := H14.drew.drewN nd
    clear y5 u5 H14
    generalize World.drewN (World.drew _) nd = W5 at H15 ⊢
    have y5 := H15.cell 6 rfl 0 (v := .int .i64 i) rfl
    have u5 := H15.unfrozen 6 rfl 0
    gi_wp2
    have H16 := H15.box_set 6 rfl rfl 0 (.int .i64 ((i : Int) + 1))
    exact ⟨H16.obj_at 10 rfl, true, rfl, .inl ⟨rfl, (H16.put_obj 10 rfl rfl (.loop (rec .ready none))).keep [0, 1, 2, 3, 4, 5, 6, 7, 8, 9, 10]⟩⟩
  · rintro e W2 ⟨hv, (H13 | ⟨i0, _, hf⟩)⟩
    · refine ⟨hv, .inl ⟨H13.obj_at 10 rfl, fun o' => ?_⟩⟩
      have H14 := (H13.put_obj 10 rfl rfl o').keep [0, 1, 2, 3, 4, 5, 6, 9]
      clear H13 H12 hYield hv
      generalize World.putObj W2 _ o' = W3 at H14 ⊢
      obtain ⟨A9, c9, hw9, hC9, hc9⟩ := H14.drew.fact 3 rfl (fun _ h => isW_see h)
      have z0 := hw9.c0
      have y5 := H14.drew.cell 6 rfl 0 (v := .int .i64 s.l.length) rfl
      have y3 := H14.drew.cell 4 rfl 0 (v := .pointer (some ⟨g, 0, none⟩)) rfl
      have y4 := H14.drew.cell 5 rfl 0 (v := .bool false) rfl
      have u4 := H14.drew.unfrozen 5 rfl 0
      have hlm := HL.out
      clear hw9 hC9
      go_wp2
      rename_i K9 hK9
      refine wp_mono (Q := fun e a w => match e with | .panic _ => False | .normal => K9 a w | _ => False) ?_ ?_
      rotate_left
      · rintro e a w0 h0
        cases e with
        | normal => exact h0
        | _ => exact h0.elim
      go_region_law (refine goes_ Try.func22 (by kernel_rfl) rfl #[.pointer (some ⟨b, 0, none⟩)] (by rfl) rfl rfl (by (try simp only [List.map_toArray, List.map_cons, List.map_nil]); first | done | rfl) ?_; refine (len_hp H14.drew 2 rfl).mono ?_; rintro e w5 ⟨rfl, rfl⟩; refine ⟨_, rfl, ?_⟩)
      all_goals
        show K9 _ _
        have H25 := (H14.box_set 5 rfl rfl 0 (.bool true)).drew
        clear H14 z0 y5 y3 y4 u4
        generalize World.drew _ = W4 at H25 ⊢
        have H26 := H25.put_obj 7 rfl rfl (.deferred none)
        have hc := H26.cell 5 rfl 0 (v := .bool true) rfl
        have hd1 := H25.obj_at 7 rfl
        clear H25
        go_wp2
        refine ⟨by simp, .inl ⟨_, _, rfl, run_takeDeferred hd1, ?_⟩⟩
        refine ⟨.bool true, ?_, .bool true, rfl, ?_⟩
        · simp [results, Try.f29, go_sem, hc]
        · exact ((H26.join 2 3 rfl rfl (by decide) rfl rfl).imp 2 (A' := Asn.and (Asn.lift (Value.bool true = .bool true)) (Asn.star (isV b s) (isW g s))) rfl (fun S h => ⟨rfl, h⟩)).keep [0, 2]
    · exact hf.elim
end Go.Proofs.Ytgbmlkoblcfceaa.Vd

set_option linter.unusedVariables false
set_option linter.unusedSimpArgs false
namespace Go.Proofs.Ytgbmlkoblcfceaa.Vd
open Go.RowKit Go.Proofs.Ytgbmlkoblcfceaa.B Go.Proofs.YtgbmlkoblcfceaaW.PrintWords Go.Proofs.YtgbmlkoblcfceaaW.PrintLast Go.Proofs.YtgbmlkoblcfceaaW.PrintMore Go.Proofs.YtgbmlkoblcfceaaW.Mine Go.Proofs.YtgbmlkoblcfceaaW.Hp
def Okk (s : V) : Prop := s.l.length ≤ 4096 ∧ (∀ x ∈ s.l, x.f0 ≤ s.la) ∧ s.l.Pairwise (fun x y => x.f0 < y.f0) ∧ ∀ x ∈ s.l, x.f1.length < 8796093022208
theorem keysOf_len (ws : List ByteArray) : (keysOf ws).length ≤ ws.length := by
  have := Cp.cpt_len (Srt.srt ws)
  rw [srt_len] at this
  exact this
theorem Okk.add {s : V} (h : Okk s) (ts : Int) (ws : List ByteArray) (hw : ws.length < 8796093022208) : Okk (addV s ts ws).2 := by
  obtain ⟨h2, h3, h4, h5⟩ := h
  unfold addV
  split
  · exact ⟨h2, h3, h4, h5⟩
  · split
    · exact ⟨h2, h3, h4, h5⟩
    · refine ⟨by simp; omega, ?_, ?_, ?_⟩
      · intro x hx
        rcases List.mem_append.1 hx with hx | hx
        · have := h3 x hx
          show x.f0 ≤ ts
          omega
        · rw [List.mem_singleton.1 hx]; exact Int.le_refl _
      · rw [List.pairwise_append]
        refine ⟨h4, List.pairwise_singleton _ _, ?_⟩
        intro x hx y hy
        rw [List.mem_singleton.1 hy]
        have := h3 x hx
        show x.f0 < ts
        omega
      · intro x hx
        rcases List.mem_append.1 hx with hx | hx
        · exact h5 x hx
        · rw [List.mem_singleton.1 hx]
          have := keysOf_len ws
          show (keysOf ws).length < _
          omega
theorem Okk.forget {s : V} (h : Okk s) (ts : Int) : Okk (forgetV s ts).2 := by
  obtain ⟨h2, h3, h4, h5⟩ := h
  unfold forgetV
  split
  · exact ⟨h2, h3, h4, h5⟩
  · exact ⟨by show (s.l.drop _).length ≤ 4096; rw [List.length_drop]; omega, fun x hx => h3 x (List.mem_of_mem_drop hx), h4.sublist (List.drop_sublist _ _), fun x hx => h5 x (List.mem_of_mem_drop hx)⟩
theorem rcheck_is {w0 w : World} {L : List (Nat × Asn)} {i : Nat} {K : Option Addr} {cK : Nat} {rk : List ByteArray} {R : Option Addr} {cR : Nat} {rr : List S65} {M : Option Addr} {cM : Nat} {mine : List ByteArray} {b : Nat} {s : V} (H : Hp w0 w L) (p : Nat) (hi : L[p]? = some (i, isW b s)) (hs : Okk s) (snap lv r : Int) (h : Rd w K cK rk R cR rr M cM mine) (hk : rk.length ≤ 9223372036854775806) (hr : rr.length ≤ 9223372036854775806) (hm : mine.length ≤ 9223372036854775806) (e : chk s.fl s.l snap lv rk rr mine = r) :
    Calls Try.prog 25 #[.pointer (some ⟨b, 0, none⟩), .int .i64 snap, .int .i64 lv, .agg #[.slice K rk.length cK, .slice R rr.length cR], .slice M mine.length cM] w fun e w' => e = .returned (.int .i64 r) ∧ Hp w0 w' L := by
  rw [← e]
  obtain ⟨A, c, hv, hC, hc⟩ := H.fact p hi (fun S h => isW_see h)
  refine (rcheck_calls b A c s hs.2.2.1 snap lv (by rw [List.length_map]; exact hv) (by rw [List.length_map]; exact hC) (by rw [List.length_map]; exact hc) h hk hr hm (fun x hx => by have := hs.2.2.2 x hx; omega)).mono ?_
  rintro e w' ⟨rfl, hb⟩
  exact ⟨rfl, H.same hb⟩
theorem recent_is {w0 w : World} {U : Nat → Prop} {X : Asn} {b g : Nat} {s : V} (H : Hp w0 w [(0, Asn.old w0 U), (0, X), (1, isV b s), (2, isW g s)]) (hs : Okk s) :
    Calls Try.prog 29 #[.pointer (some ⟨b, 0, none⟩), .pointer (some ⟨g, 0, none⟩)] w fun e w' => e = .returned (.bool true) ∧ Hp w0 w' [(0, Asn.old w0 U), (0, X), (1, isV b s), (2, isW g s)] := by
  have H1 : Hp w0 w [(0, Asn.old w0 U), (0, X), (1, Asn.star (isV b s) (isW g s))] := (H.join 2 3 rfl rfl (by decide) rfl rfl).keep [0, 1, 2]
  refine (H1.call (recent_tr b g s hs.1 hs.2.2.2) 2 rfl rfl (fun _ _ => trivial)).mono ?_
  rintro e w' ⟨r, rfl, H2⟩
  obtain rfl := H2.fact 2 rfl (fun _ h => h.1)
  have H3 : Hp w0 w' [(0, Asn.old w0 U), (0, X), (1, Asn.star (isV b s) (isW g s))] := H2.imp (A' := Asn.star (isV b s) (isW g s)) 2 rfl (fun _ h => h.2)
  exact ⟨rfl, H3.split 2 2 rfl rfl (by decide)⟩
theorem rnewd (w : World) : Calls Try.prog 24 #[] w fun e w' => e = .returned (.pointer (some ⟨w.heap.size, 0, none⟩)) ∧ w' = w.alloc (.cells #[.slice none 0 0, .int .i64 0, .int .i64 0] 77) := by
  go_enter Try.func24, Try.ntmps24
  go_wp2
  go_ret
  exact ⟨rfl, rfl⟩
theorem newW {w0 w : World} {L : List (Nat × Asn)} (H : Hp w0 w L) (m : Nat) : Calls Try.prog 24 #[] w fun e w' => ∃ b, e = .returned (.pointer (some ⟨b, 0, none⟩)) ∧ Hp w0 w' (L ++ [(m, isW b ⟨[], 0, 0⟩)]) := by
  refine (rnewd w).mono ?_
  rintro e w' ⟨rfl, rfl⟩
  refine ⟨_, rfl, H.new m (al _ _) ?_⟩
  refine ⟨.slice none 0 0, fun k => k = w.heap.size, fun _ => False, fun _ _ h => h, fun k hk _ => ?_, ⟨blk_new w _, rfl⟩, Kd.R_nil _ _ _ _ _⟩
  rcases hk with rfl | hk
  · exact Nat.le_refl _
  · exact hk.elim
theorem moved {w0 w : World} {U : Nat → Prop} {X Y : Asn} {b : Nat} {s : V} (H : Hp w0 w [(0, Asn.old w0 U), (0, X), (1, Asn.top), (2, Y), (4, isV b s)]) : Hp w0 w [(0, Asn.old w0 U), (0, X), (1, isV b s), (2, Y)] :=
  ((H.join 2 4 rfl rfl (by decide) rfl rfl).imp 2 (A' := isV b s) rfl (fun S ⟨_, _, _, hs, _, hB⟩ => (isV b s).mono hB (fun k hk h => hs k (.inr h) hk))).keep [0, 1, 2, 3]
def dsT9.T9 : Bool × List (List Nat × List Nat) := (true, [([], []), ([], []), ([1], [1]), ([], []), ([3], [3]), ([], []), ([5], [5]), ([], []), ([7], [7]), ([0, 2, 4, 6, 8], [0, 2, 4, 6, 8]), ([], []), ([], []), ([11], [11]), ([], []), ([13], [13]), ([], []), ([15], [15]), ([], []), ([17], [17]), ([10, 12, 14, 16, 18, 9], [10, 12, 14, 16, 18]), ([9, 19], [9, 19])])
def dsT9.B9 : List Nat := [0, 0, 2, 0, 8, 0, 32, 0, 128, 511, 0, 0, 2048, 0, 8192, 0, 32768, 0, 131072, 524287, 1048575]
theorem dsT9.tab9 : rtab .any (opsOf Try.f8 9) = dsT9.T9 := by kernel_rfl
theorem dsT9.bits9 : waitsOk dsT9.T9.2 dsT9.B9 = true := by kernel_rfl
def dsT12.T12 : Bool × List (List Nat × List Nat) := (true, [([], []), ([], []), ([1], [1]), ([], []), ([3], [3]), ([0, 2, 4], [0, 2, 4]), ([], []), ([], []), ([7], [7]), ([], []), ([9], [9]), ([6, 8, 10, 5], [6, 8, 10]), ([5, 11], [5, 11])])
def dsT12.B12 : List Nat := [0, 0, 2, 0, 8, 31, 0, 0, 128, 0, 512, 2047, 4095]
theorem dsT12.tab12 : rtab .any (opsOf Try.f8 12) = dsT12.T12 := by kernel_rfl
theorem dsT12.bits12 : waitsOk dsT12.T12.2 dsT12.B12 = true := by kernel_rfl
def dsT15.T15 : Bool × List (List Nat × List Nat) := (true, [([], []), ([], []), ([1], [1]), ([0, 2], [0, 2]), ([], []), ([], []), ([5], [5]), ([4, 6, 3], [4, 6]), ([3, 7], [3, 7])])
def dsT15.B15 : List Nat := [0, 0, 2, 7, 0, 0, 32, 127, 255]
theorem dsT15.tab15 : rtab .any (opsOf Try.f8 15) = dsT15.T15 := by kernel_rfl
theorem dsT15.bits15 : waitsOk dsT15.T15.2 dsT15.B15 = true := by kernel_rfl
set_option maxHeartbeats 16000000 in
set_option maxRecDepth 100000 in
theorem does_go (A : Option Addr) (c : Nat) (ops : List S28) (w : World) (hC : Kd.C k28 w A ops.length ops) (hc : ops.length ≤ c) (hs : ∀ x ∈ ops, x.f4.length < 8796093022208 ∧ x.f3.f0.length < 8796093022208 ∧ x.f3.f1.length < 8796093022208) :
    Calls Try.prog 8 #[.slice A ops.length c] w fun e w' => e = .returned (.bool true) ∧ Below w.heap.size w w' := by
  have hmx : ops.length ≤ 9223372036854775807 := hC.2.1
  have H := (Hp.start w).came h28 0 rfl hC
  have HS := Aside0.mk hs
  clear hs hC
  go_enter Try.func8, Try.ntmps8
  go_wp2_with (first
    | (go_at_call 13; refine (newV H 1 rfl).mono ?_; rintro e w1 ⟨b0, rfl, H1⟩; clear H)
    | (go_at_call 24; refine (newW H1 2).mono ?_; rintro e w2 ⟨g, rfl, H2⟩; clear H1)
    | (go_at_call 11; refine (live_calls _).mono ?_; rintro e w3 ⟨rfl, hb3⟩; have H3 := H2.same hb3; clear H2 hb3))
  go_loopg [3, 18] ops.length (fun gk v3 v18 wr => ∃ (i b : Nat) (s : V), v3 = .pointer (some ⟨b, 0, none⟩) ∧ v18 = .int .i64 i ∧ i ≤ ops.length ∧ ops.length - i ≤ gk ∧ Aside0 (Okk s) ∧ Aside0 (Hp w wr [(0, Asn.old w (fun _ => False)), (0, Asn.rd k28 A ops.length ops), (1, isV b s), (2, isW g s)]))
  case atStart => exact ⟨0, b0, ⟨[], 0, 0⟩, rfl, rfl, Nat.zero_le _, by omega, ⟨⟨Nat.zero_le _, fun x hx => (List.not_mem_nil hx).elim, List.Pairwise.nil, fun x hx => (List.not_mem_nil hx).elim⟩⟩, ⟨H3⟩⟩
  case round =>
    clear H3
    obtain ⟨i, b, s, rfl, rfl, hil, hgk, HK, HO⟩ := hrel
    by_cases hlt : i < ops.length
    · have hltz : (i : Int) < (ops.length : Int) := by omega
      obtain ⟨ad, A3, c3, A4, c4, A5, c5, e, x0, x1, x2, x3, x4, x5, l3, l4, l5, HQ⟩ := reads28 HO.out 1 rfl (i : Int) (by omega) hltz
      cases e
      have HB : Aside0 ((rd_T28 ops (i : Int)).f4.length < 8796093022208 ∧ (rd_T28 ops (i : Int)).f3.f0.length < 8796093022208 ∧ (rd_T28 ops (i : Int)).f3.f1.length < 8796093022208) := ⟨HS.out _ (Sl.getD_in _ (by simpa using hlt))⟩
      have HI := Aside0.mk HQ
      have HGK := Aside0.mk hgk
      clear HO HQ hgk
      rw [Int.toNat_natCast] at x0 x1 x2 x3 x4 x5
      generalize rd_T28 ops (i : Int) = x at x0 x1 x2 x3 x4 x5 l3 l4 l5 HB HI
      go_upto_region 7 with (first
        | ((with_reducible refine gate_dst (N := 6) rfl ?_); refine Hp.at_box HI.out 7 ?hg (N := 6) ?hd (cs := #[.int .i64 0, .int .i64 0, .int .i64 0, .slice none 0 0, .slice none 0 0, .slice none 0 0]) (t := 28) ?hr ?_; (case hd => rfl); (case hg => rfl); (case hr => first | (go_simp; done) | (go_simp; rfl)); intro g3 w3 H3; clear HI x0 x1 x2 x3 x4 x5; have y0 := H3.cell 7 rfl 0 (v := .int .i64 0) rfl; have y1 := H3.cell 7 rfl 1 (v := .int .i64 0) rfl; have y2 := H3.cell 7 rfl 2 (v := .int .i64 0) rfl; have y3 := H3.cell 7 rfl 3 (v := .slice none 0 0) rfl; have y4 := H3.cell 7 rfl 4 (v := .slice none 0 0) rfl; have y5 := H3.cell 7 rfl 5 (v := .slice none 0 0) rfl; have u0 := H3.unfrozen 7 rfl 0; have u1 := H3.unfrozen 7 rfl 1; have u2 := H3.unfrozen 7 rfl 2; have u3 := H3.unfrozen 7 rfl 3; have u4 := H3.unfrozen 7 rfl 4; have u5 := H3.unfrozen 7 rfl 5)
        | ((with_reducible refine gate_store (t := 28) (p := 6) rfl ?_); refine Hp.at_sets H3 7 rfl rfl ?hg (T := 28) (z := 6) (x := ?vo) ?ho ?hn 0 [.int .i64 x.f0, .int .i64 x.f1, .int .i64 x.f2, .slice A3 x.f3.f0.length c3, .slice A4 x.f3.f1.length c4, .slice A5 x.f4.length c5] ?hr (cs' := #[.int .i64 x.f0, .int .i64 x.f1, .int .i64 x.f2, .slice A3 x.f3.f0.length c3, .slice A4 x.f3.f1.length c4, .slice A5 x.f4.length c5]) ?hc ?_; (case ho => rfl); (case hg => rfl); (case hn => rfl); (case hr => first | (go_simp; done) | (go_simp; rfl)); (case hc => rfl); clear y0 y1 y2 y3 y4 y5 u0 u1 u2 u3 u4 u5; intro w4 H4))
      have y0 := H4.cell 7 rfl 0 (v := .int .i64 x.f0) rfl
      have y1 := H4.cell 7 rfl 1 (v := .int .i64 x.f1) rfl
      have y2 := H4.cell 7 rfl 2 (v := .int .i64 x.f2) rfl
      have y3 := H4.cell 7 rfl 3 (v := .slice A3 x.f3.f0.length c3) rfl
      have y4 := H4.cell 7 rfl 4 (v := .slice A4 x.f3.f1.length c4) rfl
      have y5 := H4.cell 7 rfl 5 (v := .slice A5 x.f4.length c5) rfl
      have HD := H4.drew
      by_cases q0 : x.f0 = 0
      · have q1 : (x.f0 == 0) = true := beq_iff_eq.mpr q0
        clear q0
        obtain ⟨r, hr⟩ : ∃ r, chk s.fl s.l x.f1 x.f2 x.f3.f0 x.f3.f1 x.f4 = r := ⟨_, rfl⟩
        have HR := Aside0.mk hr
        clear hr
        go_wp2
        refine start_ (n := 21) (S := fun w' => w'.cell? ⟨g3, 1, none⟩ = some (.int .i64 x.f1) ∧ w'.cell? ⟨g3, 2, none⟩ = some (.int .i64 x.f2) ∧ w'.cell? ⟨g3, 3, none⟩ = some (.slice A3 x.f3.f0.length c3) ∧ w'.cell? ⟨g3, 4, none⟩ = some (.slice A4 x.f3.f1.length c4) ∧ w'.cell? ⟨g3, 5, none⟩ = some (.slice A5 x.f4.length c5)) (ds := []) #[false, false, false, false, false, false, false, false, false, false, false, false, false, false, false, false, false, false, false, false, false] (by kernel_rfl) rfl rfl ⟨(HD.cell 7 rfl 1 (v := .int .i64 x.f1) rfl), (HD.cell 7 rfl 2 (v := .int .i64 x.f2) rfl), (HD.cell 7 rfl 3 (v := .slice A3 x.f3.f0.length c3) rfl), (HD.cell 7 rfl 4 (v := .slice A4 x.f3.f1.length c4) rfl), (HD.cell 7 rfl 5 (v := .slice A5 x.f4.length c5) rfl)⟩ (fun hHeld => ?_); refine with_tabW dsT9.tab9 dsT9.bits9 (fun HT_ HW_ => ?_)
        refine pure_ (i := 0) (N := some 26) (v := ?_) (a' := ?_) #[true, false, false, false, false, false, false, false, false, false, false, false, false, false, false, false, false, false, false, false, false] rfl rfl (any_of HT_.out (by kernel_rfl)) (fun _ _ _ h => h) (Or.inl ⟨by rfl, ?_⟩) ?_ ?_
        rotate_left
        · intro w'
          go_simp
          with_reducible rfl
        rotate_left
        · simp only [Act.put, List.setIfInBounds_toArray, List.set_cons_zero, List.set_cons_succ, i64_w, i32_w]
          rfl
        refine pure_ (i := 1) (N := some 27) (v := ?_) (a' := ?_) #[true, true, false, false, false, false, false, false, false, false, false, false, false, false, false, false, false, false, false, false, false] rfl rfl (any_of HT_.out (by kernel_rfl)) (fun _ _ _ h => h) (Or.inl ⟨by rfl, ?_⟩) ?_ ?_
        rotate_left
        · intro w'
          go_simp
          with_reducible rfl
        rotate_left
        · simp only [Act.put, List.setIfInBounds_toArray, List.set_cons_zero, List.set_cons_succ, i64_w, i32_w]
          rfl
        refine pure_ (i := 3) (N := some 29) (v := ?_) (a' := ?_) #[true, true, false, true, false, false, false, false, false, false, false, false, false, false, false, false, false, false, false, false, false] rfl rfl (any_of HT_.out (by kernel_rfl)) (fun _ _ _ h => h) (Or.inl ⟨by rfl, ?_⟩) ?_ ?_
        rotate_left
        · intro w'
          go_simp
          with_reducible rfl
        rotate_left
        · simp only [Act.put, List.setIfInBounds_toArray, List.set_cons_zero, List.set_cons_succ, i64_w, i32_w]
          rfl
        refine pure_ (i := 5) (N := some 31) (v := ?_) (a' := ?_) #[true, true, false, true, false, true, false, false, false, false, false, false, false, false, false, false, false, false, false, false, false] rfl rfl (any_of HT_.out (by kernel_rfl)) (fun _ _ _ h => h) (Or.inl ⟨by rfl, ?_⟩) ?_ ?_
        rotate_left
        · intro w'
          go_simp
          with_reducible rfl
        rotate_left
        · simp only [Act.put, List.setIfInBounds_toArray, List.set_cons_zero, List.set_cons_succ, i64_w, i32_w]
          rfl
        refine pure_ (i := 7) (N := some 33) (v := ?_) (a' := ?_) #[true, true, false, true, false, true, false, true, false, false, false, false, false, false, false, false, false, false, false, false, false] rfl rfl (any_of HT_.out (by kernel_rfl)) (fun _ _ _ h => h) (Or.inl ⟨by rfl, ?_⟩) ?_ ?_
        rotate_left
        · intro w'
          go_simp
          with_reducible rfl
        rotate_left
        · simp only [Act.put, List.setIfInBounds_toArray, List.set_cons_zero, List.set_cons_succ, i64_w, i32_w]
          rfl
        refine pure_ (i := 10) (N := some 36) (v := ?_) (a' := ?_) #[true, true, false, true, false, true, false, true, false, false, true, false, false, false, false, false, false, false, false, false, false] rfl rfl (any_of HT_.out (by kernel_rfl)) (fun _ _ _ h => h) (Or.inl ⟨by rfl, ?_⟩) ?_ ?_
        rotate_left
        · intro w'
          go_simp
          with_reducible rfl
        rotate_left
        · simp only [Act.put, List.setIfInBounds_toArray, List.set_cons_zero, List.set_cons_succ, i64_w, i32_w]
          rfl
        refine pure_ (i := 11) (N := some 37) (v := ?_) (a' := ?_) #[true, true, false, true, false, true, false, true, false, false, true, true, false, false, false, false, false, false, false, false, false] rfl rfl (any_of HT_.out (by kernel_rfl)) (fun _ _ _ h => h) (Or.inl ⟨by rfl, ?_⟩) ?_ ?_
        rotate_left
        · intro w'
          go_simp
          with_reducible rfl
        rotate_left
        · simp only [Act.put, List.setIfInBounds_toArray, List.set_cons_zero, List.set_cons_succ, i64_w, i32_w]
          rfl
        refine pure_ (i := 13) (N := some 39) (v := ?_) (a' := ?_) #[true, true, false, true, false, true, false, true, false, false, true, true, false, true, false, false, false, false, false, false, false] rfl rfl (any_of HT_.out (by kernel_rfl)) (fun _ _ _ h => h) (Or.inl ⟨by rfl, ?_⟩) ?_ ?_
        rotate_left
        · intro w'
          go_simp
          with_reducible rfl
        rotate_left
        · simp only [Act.put, List.setIfInBounds_toArray, List.set_cons_zero, List.set_cons_succ, i64_w, i32_w]
          rfl
        refine pure_ (i := 15) (N := some 41) (v := ?_) (a' := ?_) #[true, true, false, true, false, true, false, true, false, false, true, true, false, true, false, true, false, false, false, false, false] rfl rfl (any_of HT_.out (by kernel_rfl)) (fun _ _ _ h => h) (Or.inl ⟨by rfl, ?_⟩) ?_ ?_
        rotate_left
        · intro w'
          go_simp
          with_reducible rfl
        rotate_left
        · simp only [Act.put, List.setIfInBounds_toArray, List.set_cons_zero, List.set_cons_succ, i64_w, i32_w]
          rfl
        refine pure_ (i := 17) (N := some 43) (v := ?_) (a' := ?_) #[true, true, false, true, false, true, false, true, false, false, true, true, false, true, false, true, false, true, false, false, false] rfl rfl (any_of HT_.out (by kernel_rfl)) (fun _ _ _ h => h) (Or.inl ⟨by rfl, ?_⟩) ?_ ?_
        rotate_left
        · intro w'
          go_simp
          with_reducible rfl
        rotate_left
        · simp only [Act.put, List.setIfInBounds_toArray, List.set_cons_zero, List.set_cons_succ, i64_w, i32_w]
          rfl
        refine take_ (i := 2) (N := some 28) (v := ?_) (a' := ?_) #[true, true, true, true, false, true, false, true, false, false, true, true, false, true, false, true, false, true, false, false, false] rfl rfl (take_ofW HT_.out HW_.out (by kernel_rfl)) (fun _ _ _ h => h) (Or.inl ⟨by rfl, ?_⟩) hHeld ?_ ?_
        rotate_left
        · rintro w' ⟨s0, s1, s2, s3, s4⟩
          go_simp
          with_reducible rfl
        rotate_left
        · simp only [Act.put, List.setIfInBounds_toArray, List.set_cons_zero, List.set_cons_succ, i64_w, i32_w]
          rfl
        refine take_ (i := 4) (N := some 30) (v := ?_) (a' := ?_) #[true, true, true, true, true, true, false, true, false, false, true, true, false, true, false, true, false, true, false, false, false] rfl rfl (take_ofW HT_.out HW_.out (by kernel_rfl)) (fun _ _ _ h => h) (Or.inl ⟨by rfl, ?_⟩) hHeld ?_ ?_
        rotate_left
        · rintro w' ⟨s0, s1, s2, s3, s4⟩
          go_simp
          with_reducible rfl
        rotate_left
        · simp only [Act.put, List.setIfInBounds_toArray, List.set_cons_zero, List.set_cons_succ, i64_w, i32_w]
          rfl
        refine take_ (i := 6) (N := some 32) (v := ?_) (a' := ?_) #[true, true, true, true, true, true, true, true, false, false, true, true, false, true, false, true, false, true, false, false, false] rfl rfl (take_ofW HT_.out HW_.out (by kernel_rfl)) (fun _ _ _ h => h) (Or.inl ⟨by rfl, ?_⟩) hHeld ?_ ?_
        rotate_left
        · rintro w' ⟨s0, s1, s2, s3, s4⟩
          go_simp
          with_reducible rfl
        rotate_left
        · simp only [Act.put, List.setIfInBounds_toArray, List.set_cons_zero, List.set_cons_succ, i64_w, i32_w]
          rfl
        refine take_ (i := 8) (N := some 34) (v := ?_) (a' := ?_) #[true, true, true, true, true, true, true, true, true, false, true, true, false, true, false, true, false, true, false, false, false] rfl rfl (take_ofW HT_.out HW_.out (by kernel_rfl)) (fun _ _ _ h => h) (Or.inl ⟨by rfl, ?_⟩) hHeld ?_ ?_
        rotate_left
        · rintro w' ⟨s0, s1, s2, s3, s4⟩
          go_simp
          with_reducible rfl
        rotate_left
        · simp only [Act.put, List.setIfInBounds_toArray, List.set_cons_zero, List.set_cons_succ, i64_w, i32_w]
          rfl
        refine take_ (i := 12) (N := some 38) (v := ?_) (a' := ?_) #[true, true, true, true, true, true, true, true, true, false, true, true, true, true, false, true, false, true, false, false, false] rfl rfl (take_ofW HT_.out HW_.out (by kernel_rfl)) (fun _ _ _ h => h) (Or.inl ⟨by rfl, ?_⟩) hHeld ?_ ?_
        rotate_left
        · rintro w' ⟨s0, s1, s2, s3, s4⟩
          go_simp
          with_reducible rfl
        rotate_left
        · simp only [Act.put, List.setIfInBounds_toArray, List.set_cons_zero, List.set_cons_succ, i64_w, i32_w]
          rfl
        refine take_ (i := 14) (N := some 40) (v := ?_) (a' := ?_) #[true, true, true, true, true, true, true, true, true, false, true, true, true, true, true, true, false, true, false, false, false] rfl rfl (take_ofW HT_.out HW_.out (by kernel_rfl)) (fun _ _ _ h => h) (Or.inl ⟨by rfl, ?_⟩) hHeld ?_ ?_
        rotate_left
        · rintro w' ⟨s0, s1, s2, s3, s4⟩
          go_simp
          with_reducible rfl
        rotate_left
        · simp only [Act.put, List.setIfInBounds_toArray, List.set_cons_zero, List.set_cons_succ, i64_w, i32_w]
          rfl
        refine take_ (i := 16) (N := some 42) (v := ?_) (a' := ?_) #[true, true, true, true, true, true, true, true, true, false, true, true, true, true, true, true, true, true, false, false, false] rfl rfl (take_ofW HT_.out HW_.out (by kernel_rfl)) (fun _ _ _ h => h) (Or.inl ⟨by rfl, ?_⟩) hHeld ?_ ?_
        rotate_left
        · rintro w' ⟨s0, s1, s2, s3, s4⟩
          go_simp
          with_reducible rfl
        rotate_left
        · simp only [Act.put, List.setIfInBounds_toArray, List.set_cons_zero, List.set_cons_succ, i64_w, i32_w]
          rfl
        refine take_ (i := 18) (N := some 44) (v := ?_) (a' := ?_) #[true, true, true, true, true, true, true, true, true, false, true, true, true, true, true, true, true, true, true, false, false] rfl rfl (take_ofW HT_.out HW_.out (by kernel_rfl)) (fun _ _ _ h => h) (Or.inl ⟨by rfl, ?_⟩) hHeld ?_ ?_
        rotate_left
        · rintro w' ⟨s0, s1, s2, s3, s4⟩
          go_simp
          with_reducible rfl
        rotate_left
        · simp only [Act.put, List.setIfInBounds_toArray, List.set_cons_zero, List.set_cons_succ, i64_w, i32_w]
          rfl
        refine one_ (i := 9) (N := some 35) #[true, true, true, true, true, true, true, true, true, true, true, true, true, true, true, true, true, true, true, false, false] rfl rfl (one_of HT_.out (by kernel_rfl)) (by decide) (fun Kx_ hKx_ => ?_)
        refine goes_ Try.func12 (by kernel_rfl) rfl #[.pointer (some ⟨b, 0, none⟩), .int .i64 x.f1, .int .i64 x.f2, .agg #[.slice A3 x.f3.f0.length c3, .slice A4 x.f3.f1.length c4], .slice A5 x.f4.length c5] (by rfl) rfl rfl (by (try simp only [List.map_toArray, List.map_cons, List.map_nil]); first | done | rfl) ?_
        refine (check_is HD 2 rfl x.f1 x.f2 r ⟨HD.reads 4 rfl, l3, HD.reads 5 rfl, l4, HD.reads 6 rfl, l5⟩ HR.out).mono ?_
        rintro e w9 ⟨rfl, H9⟩
        refine ⟨_, rfl, ?_⟩
        refine hKx_.out _ _ ⟨(H9.cell 7 rfl 1 (v := .int .i64 x.f1) rfl), (H9.cell 7 rfl 2 (v := .int .i64 x.f2) rfl), (H9.cell 7 rfl 3 (v := .slice A3 x.f3.f0.length c3) rfl), (H9.cell 7 rfl 4 (v := .slice A4 x.f3.f1.length c4) rfl), (H9.cell 7 rfl 5 (v := .slice A5 x.f4.length c5) rfl)⟩ (fun hHeld => ?_)
        clear hKx_ Kx_
        refine norm_ (a' := ?_) ?_ ?_
        rotate_left
        · show Act.put _ (some 35) _ = _
          simp only [Act.put, List.setIfInBounds_toArray, List.set_cons_zero, List.set_cons_succ, i64_w, i32_w]
          rfl
        refine one_ (i := 19) (N := some 45) #[true, true, true, true, true, true, true, true, true, true, true, true, true, true, true, true, true, true, true, true, false] rfl rfl (one_of HT_.out (by kernel_rfl)) (by decide) (fun Kx_ hKx_ => ?_)
        refine goes_ Try.func25 (by kernel_rfl) rfl #[.pointer (some ⟨g, 0, none⟩), .int .i64 x.f1, .int .i64 x.f2, .agg #[.slice A3 x.f3.f0.length c3, .slice A4 x.f3.f1.length c4], .slice A5 x.f4.length c5] (by rfl) rfl rfl (by (try simp only [List.map_toArray, List.map_cons, List.map_nil]); first | done | rfl) ?_
        refine (rcheck_is H9 3 rfl HK.out x.f1 x.f2 r ⟨H9.reads 4 rfl, l3, H9.reads 5 rfl, l4, H9.reads 6 rfl, l5⟩ (by have := HB.out; omega) (by have := HB.out; omega) (by have := HB.out; omega) HR.out).mono ?_
        rintro e w10 ⟨rfl, H10⟩
        refine ⟨_, rfl, ?_⟩
        refine hKx_.out _ _ ⟨(H10.cell 7 rfl 1 (v := .int .i64 x.f1) rfl), (H10.cell 7 rfl 2 (v := .int .i64 x.f2) rfl), (H10.cell 7 rfl 3 (v := .slice A3 x.f3.f0.length c3) rfl), (H10.cell 7 rfl 4 (v := .slice A4 x.f3.f1.length c4) rfl), (H10.cell 7 rfl 5 (v := .slice A5 x.f4.length c5) rfl)⟩ (fun hHeld => ?_)
        clear hKx_ Kx_
        refine norm_ (a' := ?_) ?_ ?_
        rotate_left
        · show Act.put _ (some 45) _ = _
          simp only [Act.put, List.setIfInBounds_toArray, List.set_cons_zero, List.set_cons_succ, i64_w, i32_w]
          rfl
        refine pure_ (i := 20) (N := some 46) (v := ?_) (a' := ?_) #[true, true, true, true, true, true, true, true, true, true, true, true, true, true, true, true, true, true, true, true, true] rfl rfl (any_of HT_.out (by kernel_rfl)) (fun _ _ _ h => h) (Or.inl ⟨by rfl, ?_⟩) ?_ ?_
        rotate_left
        · intro w'
          go_simp
          with_reducible rfl
        rotate_left
        · simp only [Act.put, List.setIfInBounds_toArray, List.set_cons_zero, List.set_cons_succ, i64_w, i32_w]
          rfl
        refine done_ (done_of HT_.out (by kernel_rfl)) ?_
        have HE := H10.keep [0, 1, 2, 3]
        clear H9 H10 HD H4 HT_ HW_ hHeld y0 y1 y2 y3 y4 y5
        go_wp2_with (go_at_call 29; refine (recent_is HE HK.out).mono ?_; rintro e w11 ⟨rfl, H11⟩; clear HE)
        go_roundg (ops.length - (i + 1))
        case measure => have := HGK.out; omega
        case rel => exact ⟨i + 1, b, s, rfl, by go_num, by omega, by omega, HK, ⟨H11⟩⟩
      · have q1 : (x.f0 == 0) = false := beq_eq_false_iff_ne.mpr q0
        clear q0
        by_cases q0 : x.f0 = 1
        · have q2 : (x.f0 == 1) = true := beq_iff_eq.mpr q0
          clear q0
          obtain ⟨s', hs'⟩ : ∃ s', (addV s x.f1 x.f4).2 = s' := ⟨_, rfl⟩
          obtain ⟨r, hr⟩ : ∃ r, (addV s x.f1 x.f4).1 = r := ⟨_, rfl⟩
          have HK2 : Aside0 (Okk s') := ⟨hs' ▸ HK.out.add x.f1 x.f4 HB.out.1⟩
          have hA := add_tr b s x.f1 A5 c5 x.f4 l5 HB.out.1
          have hB := radd_tr g s x.f1 A5 c5 x.f4 l5 HB.out.1
          rw [hs', hr] at hA hB
          have HA := Aside0.mk hA
          have HAB := Aside0.mk hB
          clear hs' hr hA hB
          go_wp2
          refine start_ (n := 13) (S := fun w' => w'.cell? ⟨g3, 1, none⟩ = some (.int .i64 x.f1) ∧ w'.cell? ⟨g3, 5, none⟩ = some (.slice A5 x.f4.length c5)) (ds := []) #[false, false, false, false, false, false, false, false, false, false, false, false, false] (by kernel_rfl) rfl rfl ⟨(HD.cell 7 rfl 1 (v := .int .i64 x.f1) rfl), (HD.cell 7 rfl 5 (v := .slice A5 x.f4.length c5) rfl)⟩ (fun hHeld => ?_); refine with_tabW dsT12.tab12 dsT12.bits12 (fun HT_ HW_ => ?_)
          refine pure_ (i := 0) (N := some 49) (v := ?_) (a' := ?_) #[true, false, false, false, false, false, false, false, false, false, false, false, false] rfl rfl (any_of HT_.out (by kernel_rfl)) (fun _ _ _ h => h) (Or.inl ⟨by rfl, ?_⟩) ?_ ?_
          rotate_left
          · intro w'
            go_simp
            with_reducible rfl
          rotate_left
          · simp only [Act.put, List.setIfInBounds_toArray, List.set_cons_zero, List.set_cons_succ, i64_w, i32_w]
            rfl
          refine pure_ (i := 1) (N := some 50) (v := ?_) (a' := ?_) #[true, true, false, false, false, false, false, false, false, false, false, false, false] rfl rfl (any_of HT_.out (by kernel_rfl)) (fun _ _ _ h => h) (Or.inl ⟨by rfl, ?_⟩) ?_ ?_
          rotate_left
          · intro w'
            go_simp
            with_reducible rfl
          rotate_left
          · simp only [Act.put, List.setIfInBounds_toArray, List.set_cons_zero, List.set_cons_succ, i64_w, i32_w]
            rfl
          refine pure_ (i := 3) (N := some 52) (v := ?_) (a' := ?_) #[true, true, false, true, false, false, false, false, false, false, false, false, false] rfl rfl (any_of HT_.out (by kernel_rfl)) (fun _ _ _ h => h) (Or.inl ⟨by rfl, ?_⟩) ?_ ?_
          rotate_left
          · intro w'
            go_simp
            with_reducible rfl
          rotate_left
          · simp only [Act.put, List.setIfInBounds_toArray, List.set_cons_zero, List.set_cons_succ, i64_w, i32_w]
            rfl
          refine pure_ (i := 6) (N := some 55) (v := ?_) (a' := ?_) #[true, true, false, true, false, false, true, false, false, false, false, false, false] rfl rfl (any_of HT_.out (by kernel_rfl)) (fun _ _ _ h => h) (Or.inl ⟨by rfl, ?_⟩) ?_ ?_
          rotate_left
          · intro w'
            go_simp
            with_reducible rfl
          rotate_left
          · simp only [Act.put, List.setIfInBounds_toArray, List.set_cons_zero, List.set_cons_succ, i64_w, i32_w]
            rfl
          refine pure_ (i := 7) (N := some 56) (v := ?_) (a' := ?_) #[true, true, false, true, false, false, true, true, false, false, false, false, false] rfl rfl (any_of HT_.out (by kernel_rfl)) (fun _ _ _ h => h) (Or.inl ⟨by rfl, ?_⟩) ?_ ?_
          rotate_left
          · intro w'
            go_simp
            with_reducible rfl
          rotate_left
          · simp only [Act.put, List.setIfInBounds_toArray, List.set_cons_zero, List.set_cons_succ, i64_w, i32_w]
            rfl
          refine pure_ (i := 9) (N := some 58) (v := ?_) (a' := ?_) #[true, true, false, true, false, false, true, true, false, true, false, false, false] rfl rfl (any_of HT_.out (by kernel_rfl)) (fun _ _ _ h => h) (Or.inl ⟨by rfl, ?_⟩) ?_ ?_
          rotate_left
          · intro w'
            go_simp
            with_reducible rfl
          rotate_left
          · simp only [Act.put, List.setIfInBounds_toArray, List.set_cons_zero, List.set_cons_succ, i64_w, i32_w]
            rfl
          refine take_ (i := 2) (N := some 51) (v := ?_) (a' := ?_) #[true, true, true, true, false, false, true, true, false, true, false, false, false] rfl rfl (take_ofW HT_.out HW_.out (by kernel_rfl)) (fun _ _ _ h => h) (Or.inl ⟨by rfl, ?_⟩) hHeld ?_ ?_
          rotate_left
          · rintro w' ⟨s0, s1⟩
            go_simp
            with_reducible rfl
          rotate_left
          · simp only [Act.put, List.setIfInBounds_toArray, List.set_cons_zero, List.set_cons_succ, i64_w, i32_w]
            rfl
          refine take_ (i := 4) (N := some 53) (v := ?_) (a' := ?_) #[true, true, true, true, true, false, true, true, false, true, false, false, false] rfl rfl (take_ofW HT_.out HW_.out (by kernel_rfl)) (fun _ _ _ h => h) (Or.inl ⟨by rfl, ?_⟩) hHeld ?_ ?_
          rotate_left
          · rintro w' ⟨s0, s1⟩
            go_simp
            with_reducible rfl
          rotate_left
          · simp only [Act.put, List.setIfInBounds_toArray, List.set_cons_zero, List.set_cons_succ, i64_w, i32_w]
            rfl
          refine take_ (i := 8) (N := some 57) (v := ?_) (a' := ?_) #[true, true, true, true, true, false, true, true, true, true, false, false, false] rfl rfl (take_ofW HT_.out HW_.out (by kernel_rfl)) (fun _ _ _ h => h) (Or.inl ⟨by rfl, ?_⟩) hHeld ?_ ?_
          rotate_left
          · rintro w' ⟨s0, s1⟩
            go_simp
            with_reducible rfl
          rotate_left
          · simp only [Act.put, List.setIfInBounds_toArray, List.set_cons_zero, List.set_cons_succ, i64_w, i32_w]
            rfl
          refine take_ (i := 10) (N := some 59) (v := ?_) (a' := ?_) #[true, true, true, true, true, false, true, true, true, true, true, false, false] rfl rfl (take_ofW HT_.out HW_.out (by kernel_rfl)) (fun _ _ _ h => h) (Or.inl ⟨by rfl, ?_⟩) hHeld ?_ ?_
          rotate_left
          · rintro w' ⟨s0, s1⟩
            go_simp
            with_reducible rfl
          rotate_left
          · simp only [Act.put, List.setIfInBounds_toArray, List.set_cons_zero, List.set_cons_succ, i64_w, i32_w]
            rfl
          refine one_ (i := 5) (N := some 54) #[true, true, true, true, true, true, true, true, true, true, true, false, false] rfl rfl (one_of HT_.out (by kernel_rfl)) (by decide) (fun Kx_ hKx_ => ?_)
          refine goes_ Try.func14 (by kernel_rfl) rfl #[.pointer (some ⟨b, 0, none⟩), .int .i64 x.f1, .slice A5 x.f4.length c5] (by rfl) rfl rfl (by (try simp only [List.map_toArray, List.map_cons, List.map_nil]); first | done | rfl) ?_
          refine (HD.call HA.out 2 rfl rfl (fun lab h => (Asn.rd Kd.string A5 x.f4.length x.f4).mono (h.get (p := 6) rfl) (fun k _ hk => by omega))).mono ?_
          rintro e w9 ⟨r9, rfl, H9'⟩
          obtain rfl := H9'.fact 2 rfl (fun _ h => h.1)
          have H9 := H9'.imp (A' := isV b s') 2 rfl (fun _ h => h.2)
          clear H9'
          refine ⟨_, rfl, ?_⟩
          refine hKx_.out _ _ ⟨(H9.cell 7 rfl 1 (v := .int .i64 x.f1) rfl), (H9.cell 7 rfl 5 (v := .slice A5 x.f4.length c5) rfl)⟩ (fun hHeld => ?_)
          clear hKx_ Kx_
          refine norm_ (a' := ?_) ?_ ?_
          rotate_left
          · show Act.put _ (some 54) _ = _
            simp only [Act.put, List.setIfInBounds_toArray, List.set_cons_zero, List.set_cons_succ, i64_w, i32_w]
            rfl
          refine one_ (i := 11) (N := some 60) #[true, true, true, true, true, true, true, true, true, true, true, true, false] rfl rfl (one_of HT_.out (by kernel_rfl)) (by decide) (fun Kx_ hKx_ => ?_)
          refine goes_ Try.func26 (by kernel_rfl) rfl #[.pointer (some ⟨g, 0, none⟩), .int .i64 x.f1, .slice A5 x.f4.length c5] (by rfl) rfl rfl (by (try simp only [List.map_toArray, List.map_cons, List.map_nil]); first | done | rfl) ?_
          refine (H9.call HAB.out 3 rfl rfl (fun lab h => (Asn.rd Kd.string A5 x.f4.length x.f4).mono (h.get (p := 6) rfl) (fun k _ hk => by omega))).mono ?_
          rintro e w10 ⟨r10, rfl, H10'⟩
          obtain rfl := H10'.fact 3 rfl (fun _ h => h.1)
          have H10 := H10'.imp (A' := isW g s') 3 rfl (fun _ h => h.2)
          clear H10'
          refine ⟨_, rfl, ?_⟩
          refine hKx_.out _ _ ⟨(H10.cell 7 rfl 1 (v := .int .i64 x.f1) rfl), (H10.cell 7 rfl 5 (v := .slice A5 x.f4.length c5) rfl)⟩ (fun hHeld => ?_)
          clear hKx_ Kx_
          refine norm_ (a' := ?_) ?_ ?_
          rotate_left
          · show Act.put _ (some 60) _ = _
            simp only [Act.put, List.setIfInBounds_toArray, List.set_cons_zero, List.set_cons_succ, i64_w, i32_w]
            rfl
          refine pure_ (i := 12) (N := some 61) (v := ?_) (a' := ?_) #[true, true, true, true, true, true, true, true, true, true, true, true, true] rfl rfl (any_of HT_.out (by kernel_rfl)) (fun _ _ _ h => h) (Or.inl ⟨by rfl, ?_⟩) ?_ ?_
          rotate_left
          · intro w'
            go_simp
            with_reducible rfl
          rotate_left
          · simp only [Act.put, List.setIfInBounds_toArray, List.set_cons_zero, List.set_cons_succ, i64_w, i32_w]
            rfl
          refine done_ (done_of HT_.out (by kernel_rfl)) ?_
          have HE := H10.keep [0, 1, 2, 3]
          clear H9 H10 HD H4 HT_ HW_ hHeld y0 y1 y2 y3 y4 y5
          go_wp2_with (go_at_call 29; refine (recent_is HE HK2.out).mono ?_; rintro e w11 ⟨rfl, H11⟩; clear HE)
          go_roundg (ops.length - (i + 1))
          case measure => have := HGK.out; omega
          case rel => exact ⟨i + 1, b, s', rfl, by go_num, by omega, by omega, HK2, ⟨H11⟩⟩
        · have q2 : (x.f0 == 1) = false := beq_eq_false_iff_ne.mpr q0
          clear q0
          by_cases q0 : x.f0 = 2
          · have q3 : (x.f0 == 2) = true := beq_iff_eq.mpr q0
            clear q0
            obtain ⟨s', hs'⟩ : ∃ s', (forgetV s x.f1).2 = s' := ⟨_, rfl⟩
            obtain ⟨r, hr⟩ : ∃ r, (forgetV s x.f1).1 = r := ⟨_, rfl⟩
            have HK2 : Aside0 (Okk s') := ⟨hs' ▸ HK.out.forget x.f1⟩
            have hA := forget_tr b s x.f1 (by have := HK.out.1; omega)
            have hB := rforget_tr g s x.f1 HK.out.1 HK.out.2.2.1
            rw [hs', hr] at hA hB
            have HA := Aside0.mk hA
            have HAB := Aside0.mk hB
            clear hs' hr hA hB
            go_wp2
            refine start_ (n := 9) (S := fun w' => w'.cell? ⟨g3, 1, none⟩ = some (.int .i64 x.f1)) (ds := []) #[false, false, false, false, false, false, false, false, false] (by kernel_rfl) rfl rfl (HD.cell 7 rfl 1 (v := .int .i64 x.f1) rfl) (fun hHeld => ?_); refine with_tabW dsT15.tab15 dsT15.bits15 (fun HT_ HW_ => ?_)
            refine pure_ (i := 0) (N := some 64) (v := ?_) (a' := ?_) #[true, false, false, false, false, false, false, false, false] rfl rfl (any_of HT_.out (by kernel_rfl)) (fun _ _ _ h => h) (Or.inl ⟨by rfl, ?_⟩) ?_ ?_
            rotate_left
            · intro w'
              go_simp
              with_reducible rfl
            rotate_left
            · simp only [Act.put, List.setIfInBounds_toArray, List.set_cons_zero, List.set_cons_succ, i64_w, i32_w]
              rfl
            refine pure_ (i := 1) (N := some 65) (v := ?_) (a' := ?_) #[true, true, false, false, false, false, false, false, false] rfl rfl (any_of HT_.out (by kernel_rfl)) (fun _ _ _ h => h) (Or.inl ⟨by rfl, ?_⟩) ?_ ?_
            rotate_left
            · intro w'
              go_simp
              with_reducible rfl
            rotate_left
            · simp only [Act.put, List.setIfInBounds_toArray, List.set_cons_zero, List.set_cons_succ, i64_w, i32_w]
              rfl
            refine pure_ (i := 4) (N := some 68) (v := ?_) (a' := ?_) #[true, true, false, false, true, false, false, false, false] rfl rfl (any_of HT_.out (by kernel_rfl)) (fun _ _ _ h => h) (Or.inl ⟨by rfl, ?_⟩) ?_ ?_
            rotate_left
            · intro w'
              go_simp
              with_reducible rfl
            rotate_left
            · simp only [Act.put, List.setIfInBounds_toArray, List.set_cons_zero, List.set_cons_succ, i64_w, i32_w]
              rfl
            refine pure_ (i := 5) (N := some 69) (v := ?_) (a' := ?_) #[true, true, false, false, true, true, false, false, false] rfl rfl (any_of HT_.out (by kernel_rfl)) (fun _ _ _ h => h) (Or.inl ⟨by rfl, ?_⟩) ?_ ?_
            rotate_left
            · intro w'
              go_simp
              with_reducible rfl
            rotate_left
            · simp only [Act.put, List.setIfInBounds_toArray, List.set_cons_zero, List.set_cons_succ, i64_w, i32_w]
              rfl
            refine take_ (i := 2) (N := some 66) (v := ?_) (a' := ?_) #[true, true, true, false, true, true, false, false, false] rfl rfl (take_ofW HT_.out HW_.out (by kernel_rfl)) (fun _ _ _ h => h) (Or.inl ⟨by rfl, ?_⟩) hHeld ?_ ?_
            rotate_left
            · rintro w' s0
              go_simp
              with_reducible rfl
            rotate_left
            · simp only [Act.put, List.setIfInBounds_toArray, List.set_cons_zero, List.set_cons_succ, i64_w, i32_w]
              rfl
            refine take_ (i := 6) (N := some 70) (v := ?_) (a' := ?_) #[true, true, true, false, true, true, true, false, false] rfl rfl (take_ofW HT_.out HW_.out (by kernel_rfl)) (fun _ _ _ h => h) (Or.inl ⟨by rfl, ?_⟩) hHeld ?_ ?_
            rotate_left
            · rintro w' s0
              go_simp
              with_reducible rfl
            rotate_left
            · simp only [Act.put, List.setIfInBounds_toArray, List.set_cons_zero, List.set_cons_succ, i64_w, i32_w]
              rfl
            refine one_ (i := 3) (N := some 67) #[true, true, true, true, true, true, true, false, false] rfl rfl (one_of HT_.out (by kernel_rfl)) (by decide) (fun Kx_ hKx_ => ?_)
            refine goes_ Try.func23 (by kernel_rfl) rfl #[.pointer (some ⟨b, 0, none⟩), .int .i64 x.f1] (by rfl) rfl rfl (by (try simp only [List.map_toArray, List.map_cons, List.map_nil]); first | done | rfl) ?_
            refine (HD.call HA.out 2 rfl rfl (fun _ _ => trivial)).mono ?_
            rintro e w9 ⟨r9, rfl, H9'⟩
            obtain rfl := H9'.fact 2 rfl (fun _ h => h.1)
            have H9 := H9'.imp (A' := isV b s') 2 rfl (fun _ h => h.2)
            clear H9'
            refine ⟨_, rfl, ?_⟩
            refine hKx_.out _ _ (H9.cell 7 rfl 1 (v := .int .i64 x.f1) rfl) (fun hHeld => ?_)
            clear hKx_ Kx_
            refine norm_ (a' := ?_) ?_ ?_
            rotate_left
            · show Act.put _ (some 67) _ = _
              simp only [Act.put, List.setIfInBounds_toArray, List.set_cons_zero, List.set_cons_succ, i64_w, i32_w]
              rfl
            refine one_ (i := 7) (N := some 71) #[true, true, true, true, true, true, true, true, false] rfl rfl (one_of HT_.out (by kernel_rfl)) (by decide) (fun Kx_ hKx_ => ?_)
            refine goes_ Try.func27 (by kernel_rfl) rfl #[.pointer (some ⟨g, 0, none⟩), .int .i64 x.f1] (by rfl) rfl rfl (by (try simp only [List.map_toArray, List.map_cons, List.map_nil]); first | done | rfl) ?_
            refine (H9.call HAB.out 3 rfl rfl (fun _ _ => trivial)).mono ?_
            rintro e w10 ⟨r10, rfl, H10'⟩
            obtain rfl := H10'.fact 3 rfl (fun _ h => h.1)
            have H10 := H10'.imp (A' := isW g s') 3 rfl (fun _ h => h.2)
            clear H10'
            refine ⟨_, rfl, ?_⟩
            refine hKx_.out _ _ (H10.cell 7 rfl 1 (v := .int .i64 x.f1) rfl) (fun hHeld => ?_)
            clear hKx_ Kx_
            refine norm_ (a' := ?_) ?_ ?_
            rotate_left
            · show Act.put _ (some 71) _ = _
              simp only [Act.put, List.setIfInBounds_toArray, List.set_cons_zero, List.set_cons_succ, i64_w, i32_w]
              rfl
            refine pure_ (i := 8) (N := some 72) (v := ?_) (a' := ?_) #[true, true, true, true, true, true, true, true, true] rfl rfl (any_of HT_.out (by kernel_rfl)) (fun _ _ _ h => h) (Or.inl ⟨by rfl, ?_⟩) ?_ ?_
            rotate_left
            · intro w'
              go_simp
              with_reducible rfl
            rotate_left
            · simp only [Act.put, List.setIfInBounds_toArray, List.set_cons_zero, List.set_cons_succ, i64_w, i32_w]
              rfl
            refine done_ (done_of HT_.out (by kernel_rfl)) ?_
            have HE := H10.keep [0, 1, 2, 3]
            clear H9 H10 HD H4 HT_ HW_ hHeld y0 y1 y2 y3 y4 y5
            go_wp2_with (go_at_call 29; refine (recent_is HE HK2.out).mono ?_; rintro e w11 ⟨rfl, H11⟩; clear HE)
            go_roundg (ops.length - (i + 1))
            case measure => have := HGK.out; omega
            case rel => exact ⟨i + 1, b, s', rfl, by go_num, by omega, by omega, HK2, ⟨H11⟩⟩
          · have q3 : (x.f0 == 2) = false := beq_eq_false_iff_ne.mpr q0
            clear q0
            have HE : Hp w _ [(0, Asn.old w (fun _ => False)), (0, Asn.rd k28 _ ops.length ops), (1, isV b s), (2, isW g s)] := H4.keep [0, 1, 2, 3]
            by_cases q0 : x.f0 = 3
            · have q4 : (x.f0 == 3) = true := beq_iff_eq.mpr q0
              clear q0
              have hl3 : s.l.length < 4398046511104 := by have := HK.out.1; omega
              have HL3 := Aside0.mk hl3
              clear HD H4 y1 y2 y3 y4 y5 hl3
              go_wp2_with (first
                | (go_at_call 28; refine (vclone_hp (Z := Asn.top) HE HL3.out).mono ?_; rintro e w6 ⟨b2, Av, cv, rfl, hcv6, H6⟩; clear HE y0)
                | (go_at_call 23; refine (H6.call (forget_box b Av cv s hcv6 1099511627776 HL3.out) 2 rfl rfl (fun lab h => (Asn.rd k67 Av s.l.length s.l).mono (h.get (p := 5) rfl) (fun k _ hk => by omega))).mono ?_; rintro e w7 ⟨r7, rfl, H7⟩; have H8 := moved ((H7.imp (A' := Asn.top) 2 rfl (fun _ _ => trivial)).keep [0, 1, 2, 3, 4]); clear H6 H7)
                | (go_at_call 29; refine (recent_is H8 HK.out).mono ?_; rintro e w11 ⟨rfl, H11⟩; clear H8))
              go_roundg (ops.length - (i + 1))
              case measure => have := HGK.out; omega
              case rel => exact ⟨i + 1, b2, s, rfl, by go_num, by omega, by omega, HK, ⟨H11⟩⟩
            · have q4 : (x.f0 == 3) = false := beq_eq_false_iff_ne.mpr q0
              clear q0 HD H4 y1 y2 y3 y4 y5
              go_wp2_with (go_at_call 29; refine (recent_is HE HK.out).mono ?_; rintro e w11 ⟨rfl, H11⟩; clear HE)
              go_roundg (ops.length - (i + 1))
              case measure => have := HGK.out; omega
              case rel => exact ⟨i + 1, b, s, rfl, by go_num, by omega, by omega, HK, ⟨H11⟩⟩
    · obtain rfl : i = ops.length := by omega
      have hltz : ¬ (ops.length : Int) < (ops.length : Int) := by omega
      go_wp2
      go_ret
      exact ⟨rfl, HO.out.below 0 rfl (fun _ h => h)⟩
theorem ValidDoes : cressetlaw23_ValidDoes.Pure := by
  intro A0 c0 ops w h0 hc0 w0
  refine does_go A0 c0 ops w h0 hc0 (fun x hx => ?_)
  obtain ⟨_, _, _, h3, h4⟩ := w0.2.2 x hx
  have a1 := h4.2.1
  have a2 := h3.1.2.1
  have a3 := h3.2.2.1
  exact ⟨by omega, by omega, by omega⟩
end Go.Proofs.Ytgbmlkoblcfceaa.Vd

namespace Go.Proofs.Ytgbmlkoblcfceaa.Pure
open Go.RowKit Go.Proofs.Ytgbmlkoblcfceaa.B
theorem ValidDoes : cressetlaw23_ValidDoes.Pure := Vd.ValidDoes
end Go.Proofs.Ytgbmlkoblcfceaa.Pure

/-
Of the row TxnNone: printed walks and plain laws, merged (wip/claim2.py).
-/
import Derived.Test.YtookibpiiphmgaaQTxnNone3
import Derived.Test.YtookibpiiphmgaaQTxnNone13
import Derived.WalkLawsBesides
import Derived.Deep.RegionLaw
import Derived.Outline
set_option linter.unusedVariables false
set_option linter.unusedSimpArgs false
namespace Go.Proofs.Ytookibpiiphmgaa.Tn
open Go.RowKit Go.Maps Go.WideMaps Go.Proofs.Ytookibpiiphmgaa.B Go.Proofs.YtookibpiiphmgaaW.PrintWords Go.Proofs.YtookibpiiphmgaaW.PrintLast Go.Proofs.YtookibpiiphmgaaW.PrintMore Go.Proofs.YtookibpiiphmgaaW.Mine Go.Proofs.YtookibpiiphmgaaW.Hp Go.Proofs.Ytookibpiiphmgaa.Mv Go.Proofs.Ytookibpiiphmgaa.Lc

def encW (x : S46) : Value := .agg #[.string x.f0, .string x.f1, .bool x.f2]
theorem zeroW (w : World) : (zeroValue 46).run Try.prog w = .ok (encW z46) w := by kernel_rfl
structure TxS where
  se : Int
  lv : Int
  sn : Int
  st : Int
  W : List (ByteArray × S46)
  K : List (ByteArray × Bool)
  R : List S30
abbrev cellsT (s : TxS) (bw bk : Nat) (v : Value) : Array Value := #[.int .i64 s.se, .int .i64 s.lv, .int .i64 s.sn, .int .i64 s.st, .map (some bw), .map (some bk), v]
def isTx (p : Nat) (s : TxS) : Asn := Asn.ex fun x : Nat × Nat × Value => Asn.star (Asn.star (Asn.star (Asn.box p (cellsT s x.1 x.2.1 x.2.2) 67) (Asn.map kyS Try.prog 9 encW x.1 s.W)) (Asn.map kyS Try.prog 9 Value.bool x.2.1 s.K)) (Asn.row k30 30 x.2.2 s.R)
section
variable {w0 w : World} {U : Nat → Prop} {X : Asn} {p bw bk : Nat} {v : Value} {s : TxS}
theorem tx_open (H : Hp w0 w [(0, Asn.old w0 U), (0, X), (1, isTx p s)]) : ∃ bw bk v, Hp w0 w [(0, Asn.old w0 U), (0, X), (1, Asn.box p (cellsT s bw bk v) 67), (4, Asn.row k30 30 v s.R), (3, Asn.map kyS Try.prog 9 Value.bool bk s.K), (2, Asn.map kyS Try.prog 9 encW bw s.W)] := by
  obtain ⟨⟨bw, bk, v⟩, H1⟩ := H.open_ 2 rfl
  exact ⟨bw, bk, v, ((H1.split 2 4 rfl rfl (by decide)).split 2 3 rfl rfl (by decide)).split 2 2 rfl rfl (by decide)⟩
theorem tx_shut (H : Hp w0 w [(0, Asn.old w0 U), (0, X), (1, Asn.box p (cellsT s bw bk v) 67), (4, Asn.row k30 30 v s.R), (3, Asn.map kyS Try.prog 9 Value.bool bk s.K), (2, Asn.map kyS Try.prog 9 encW bw s.W)]) (r : Value) : Hp w0 w [(0, Asn.old w0 U), (1, Asn.and (Asn.lift (r = r)) (isTx p s))] :=
  ((((H.join 2 5 rfl rfl (by decide) rfl rfl).join 2 4 rfl rfl (by decide) rfl rfl).join 2 3 rfl rfl (by decide) rfl rfl).imp 2 (A' := Asn.and (Asn.lift (r = r)) (isTx p s)) rfl (fun S h => ⟨rfl, (bw, bk, v), h⟩)).keep [0, 2]
end
set_option maxRecDepth 100000
theorem run_equalIn_map {P : Program} (w : World) (d : Nat) (t : TypeId) (x : Option Nat) {k e : TypeId} (h : P.underlying t = some (.map k e)) : (Op.equalIn (d + 1) t (.map x) (.map none)).run P w = .ok x.isNone w := by
  cases x <;> simp [Op.equalIn, run_underlying h]
theorem eqMap (b : Nat) (w : World) : (binOp .eql 44 (.map (some b)) (.map none)).run Try.prog w = .ok (.bool false) w := by
  simp only [binOp]
  simp [show (Op.equal 44 (.map (some b)) (.map none)).run Try.prog w = .ok false w from run_equalIn_map w 9999 44 (some b) Try.underlying44]
theorem eqMap0 (w : World) : (binOp .eql 44 (.map none) (.map none)).run Try.prog w = .ok (.bool true) w := by
  simp only [binOp]
  simp [show (Op.equal 44 (.map none) (.map none)).run Try.prog w = .ok true w from run_equalIn_map w 9999 44 none Try.underlying44]
theorem none_calls (p bw : Nat) (w : World) (h : w.cell? ⟨p, 4, none⟩ = some (.map (some bw))) : Calls Try.prog 34 #[.pointer (some ⟨p, 0, none⟩)] w fun e w' => e = .returned (.bool false) ∧ w = w' := by
  have hq := eqMap bw w
  go_enter Try.func34, Try.ntmps34
  go_wp2
  go_ret
  exact ⟨rfl, rfl⟩
theorem none_nil (w : World) : Calls Try.prog 34 #[.pointer none] w fun e w' => e = .returned (.bool true) ∧ w = w' := by
  go_enter Try.func34, Try.ntmps34
  go_wp2
  go_ret
  exact ⟨rfl, rfl⟩
theorem none_zero (p : Nat) (w : World) (h : w.cell? ⟨p, 4, none⟩ = some (.map none)) : Calls Try.prog 34 #[.pointer (some ⟨p, 0, none⟩)] w fun e w' => e = .returned (.bool true) ∧ w = w' := by
  have hq := eqMap0 w
  go_enter Try.func34, Try.ntmps34
  go_wp2
  go_ret
  exact ⟨rfl, rfl⟩
def lkE (st : Int) : Int := if st = 1 then 0 else 220
theorem looks_calls (p bw : Nat) (st : Int) (w : World) (h : w.cell? ⟨p, 4, none⟩ = some (.map (some bw))) (h3 : w.cell? ⟨p, 3, none⟩ = some (.int .i64 st)) : Calls Try.prog 45 #[.pointer (some ⟨p, 0, none⟩)] w fun e w' => e = .returned (.int .i64 (lkE st)) ∧ w = w' := by
  unfold lkE
  by_cases hs : st = 1
  · subst hs
    rw [if_pos rfl]
    go_enter Try.func45, Try.ntmps45
    go_wp2_with (go_at_call 34; refine (none_calls p bw w h).mono ?_; rintro e w' ⟨rfl, rfl⟩)
    go_ret
    exact ⟨rfl, rfl⟩
  · rw [if_neg hs]
    have q1 : (st != 1) = true := bne_iff_ne.mpr hs
    have q2 : (st == 1) = false := beq_eq_false_iff_ne.mpr hs
    go_enter Try.func45, Try.ntmps45
    go_wp2_with (go_at_call 34; refine (none_calls p bw w h).mono ?_; rintro e w' ⟨rfl, rfl⟩)
    go_ret
    exact ⟨rfl, rfl⟩
def wE (s : TxS) (x : S46) : Int × TxS := if s.st ≠ 1 then (220, s) else if wrE x ≠ 0 then (wrE x, s) else if (kyS.get x.f0 s.W).isSome = false ∧ 64 ≤ s.W.length then (3, s) else (0, { s with W := kyS.ins x.f0 x s.W })
theorem wr_key {x : S46} (h : wrE x = 0) : x.f0.size ≤ 64 := by
  unfold wrE at h
  simp only [fst] at h
  split at h
  · rename_i hk
    unfold keyE at hk
    split at hk
    · cases hk
    · split at hk
      · cases hk
      · omega
  · rename_i hk
    exact absurd h hk
def wrT.T10 : Bool × List (List Nat × List Nat) := (true, [([], []), ([0], [0]), ([1], [1]), ([2], [2]), ([], []), ([4], [4]), ([], []), ([3, 5, 6, 0, 1, 2, 3, 4, 5, 6], [3, 5, 6])])
def wrT.B10 : List Nat := [0, 1, 3, 7, 0, 16, 0, 127]
theorem wrT.tab10 : rtab .any (opsOf Try.f33 10) = wrT.T10 := by kernel_rfl
theorem wrT.bits10 : waitsOk wrT.T10.2 wrT.B10 = true := by kernel_rfl
set_option maxHeartbeats 8000000 in
set_option maxRecDepth 100000 in
theorem write_tr (p : Nat) (s : TxS) (x : S46) (hl : s.W.length ≤ 1000000) : Tr Try.prog 33 #[.pointer (some ⟨p, 0, none⟩), encW x] Asn.top (isTx p s) (fun r => Asn.and (Asn.lift (r = .int .i64 (wE s x).1)) (isTx p (wE s x).2)) := by
  refine Tr.intro fun w U H0 => ?_
  obtain ⟨bw, bk, v, H⟩ := tx_open H0
  clear H0
  unfold encW wE
  obtain ⟨k, hk⟩ := (checkWrite_ev x).rounds
  have HK := Aside0.mk hk
  clear hk
  have HL := Aside0.mk hl
  have c3 := H.cell 2 rfl 3 (v := .int .i64 s.st) rfl
  have c4 := H.cell 2 rfl 4 (v := .map (some bw)) rfl
  by_cases hs : s.st = 1
  · rw [if_neg (fun h => h hs)]
    have hlk : lkE s.st = 0 := by unfold lkE; rw [if_pos hs]
    have HLK := Aside0.mk hlk
    by_cases he : wrE x = 0
    · rw [if_neg (fun h => h he)]
      have hsz := wr_key he
      have HSZ : Aside0 (x.f0.size ≤ maxLen) := ⟨by simp only [maxLen]; omega⟩
      rw [he] at HK
      by_cases hg : (kyS.get x.f0 s.W).isSome = true
      · rw [if_neg (fun h => by rw [hg] at h; exact absurd h.1 (by decide))]
        have HG := Aside0.mk hg
        clear hg hs he hsz hlk
        go_enter Try.func33, Try.ntmps33
        go_upto_region 7 with (first
          | ((with_reducible refine gate_dst (N := 3) rfl ?_); refine Hp.at_box H 9 ?hg (N := 3) ?hd (cs := #[.string x.f0, .string x.f1, .bool x.f2]) (t := 46) ?hr ?_; (case hd => rfl); (case hg => rfl); (case hr => first | (go_simp; done) | (go_simp; rfl)); intro g w1 H1; clear H c3 c4; have c3 := H1.cell 2 rfl 3 (v := .int .i64 s.st) rfl; have c4 := H1.cell 2 rfl 4 (v := .map (some bw)) rfl; have z0 := H1.cell 6 rfl 0 (v := .string x.f0) rfl; have z1 := H1.cell 6 rfl 1 (v := .string x.f1) rfl; have z2 := H1.cell 6 rfl 2 (v := .bool x.f2) rfl)
          | (go_at_call 45; refine (looks_calls p bw s.st _ c4 c3).mono ?_; rintro e w' ⟨rfl, rfl⟩; rw [HLK.out])
          | (go_at_call 54; refine (record_CheckWrite.calls k x.f0 x.f1 x.f2 0 _ HK.out).mono ?_; rintro e w2 ⟨rfl, hb⟩; clear c3 c4 z0 z1 z2; have H2 := H1.same hb; clear hb H1))
        have d4 := H2.drew.cell 2 rfl 4 (v := .map (some bw)) rfl
        have y0 := H2.drew.cell 6 rfl 0 (v := .string x.f0) rfl
        have H2a := H2.box_new 10 #[.string ⟨#[]⟩, .string ⟨#[]⟩, .bool false] 46
        have e4 := H2a.drew.cell 2 rfl 4 (v := .map (some bw)) rfl
        have f0 := H2a.drew.cell 6 rfl 0 (v := .string x.f0) rfl
        have l1 := look2_run (H2.drew.map_owns 5 rfl).2 lawS Try.underlying44 (zeroW _) (keyS HSZ.out)
        have l2 := look2_run (H2a.drew.map_owns 5 rfl).2 lawS Try.underlying44 (zeroW _) (keyS HSZ.out)
        rw [HG.out] at l1 l2
        unfold encW at l1 l2
        go_region
        all_goals
          clear d4 y0 e4 f0 l1 l2 H2a
          have H3' := (H2.box_new 10 #[.string ((kyS.get x.f0 s.W).getD z46).f0, .string ((kyS.get x.f0 s.W).getD z46).f1, .bool ((kyS.get x.f0 s.W).getD z46).f2] 46).drew
          have H3 := H3'.keep [0, 1, 2, 3, 4, 5, 6]
          clear H3' H2
          generalize World.drew _ = w3 at H3 ⊢
          have c4 := H3.cell 2 rfl 4 (v := .map (some bw)) rfl
          go_upto_region 10 with (first | (go_at_call 999; skip))
          have HD := H3.drew
          clear c4 H3
          refine start_ (n := 8) (S := fun w' => w'.cell? ⟨p, 4, none⟩ = some (.map (some bw)) ∧ w'.cell? ⟨g, 0, none⟩ = some (.string x.f0) ∧ w'.cell? ⟨g, 1, none⟩ = some (.string x.f1) ∧ w'.cell? ⟨g, 2, none⟩ = some (.bool x.f2)) (ds := []) #[false, false, false, false, false, false, false, false] (by kernel_rfl) rfl rfl ⟨(HD.cell 2 rfl 4 (v := .map (some bw)) rfl), (HD.cell 6 rfl 0 (v := .string x.f0) rfl), (HD.cell 6 rfl 1 (v := .string x.f1) rfl), (HD.cell 6 rfl 2 (v := .bool x.f2) rfl)⟩ (fun hHeld => ?_); refine with_tabW wrT.tab10 wrT.bits10 (fun HT_ HW_ => ?_)
          refine pure_ (i := 0) (N := some 39) (v := ?_) (a' := ?_) #[true, false, false, false, false, false, false, false] rfl rfl (any_of HT_.out (by kernel_rfl)) (fun _ _ _ h => h) (Or.inl ⟨by rfl, ?_⟩) ?_ ?_
          rotate_left
          · intro w'
            go_simp
            with_reducible rfl
          rotate_left
          · simp only [Act.put, List.setIfInBounds_toArray, List.set_cons_zero, List.set_cons_succ, i64_w, i32_w]
            rfl
          refine pure_ (i := 1) (N := some 40) (v := ?_) (a' := ?_) #[true, true, false, false, false, false, false, false] rfl rfl (any_of HT_.out (by kernel_rfl)) (fun _ _ _ h => h) (Or.inl ⟨by rfl, ?_⟩) ?_ ?_
          rotate_left
          · intro w'
            go_simp
            with_reducible rfl
          rotate_left
          · simp only [Act.put, List.setIfInBounds_toArray, List.set_cons_zero, List.set_cons_succ, i64_w, i32_w]
            rfl
          refine pure_ (i := 2) (N := some 41) (v := ?_) (a' := ?_) #[true, true, true, false, false, false, false, false] rfl rfl (any_of HT_.out (by kernel_rfl)) (fun _ _ _ h => h) (Or.inl ⟨by rfl, ?_⟩) ?_ ?_
          rotate_left
          · intro w'
            go_simp
            with_reducible rfl
          rotate_left
          · simp only [Act.put, List.setIfInBounds_toArray, List.set_cons_zero, List.set_cons_succ, i64_w, i32_w]
            rfl
          refine pure_ (i := 4) (N := some 43) (v := ?_) (a' := ?_) #[true, true, true, false, true, false, false, false] rfl rfl (any_of HT_.out (by kernel_rfl)) (fun _ _ _ h => h) (Or.inl ⟨by rfl, ?_⟩) ?_ ?_
          rotate_left
          · intro w'
            go_simp
            with_reducible rfl
          rotate_left
          · simp only [Act.put, List.setIfInBounds_toArray, List.set_cons_zero, List.set_cons_succ, i64_w, i32_w]
            rfl
          refine take_ (i := 3) (N := some 42) (v := ?_) (a' := ?_) #[true, true, true, true, true, false, false, false] rfl rfl (take_ofW HT_.out HW_.out (by kernel_rfl)) (fun _ _ _ h => h) (Or.inl ⟨by rfl, ?_⟩) hHeld ?_ ?_
          rotate_left
          · rintro w' ⟨s0, s1, s2, s3⟩
            go_simp
            with_reducible rfl
          rotate_left
          · simp only [Act.put, List.setIfInBounds_toArray, List.set_cons_zero, List.set_cons_succ, i64_w, i32_w]
            rfl
          refine take_ (i := 5) (N := some 44) (v := ?_) (a' := ?_) #[true, true, true, true, true, true, false, false] rfl rfl (take_ofW HT_.out HW_.out (by kernel_rfl)) (fun _ _ _ h => h) (Or.inl ⟨by rfl, ?_⟩) hHeld ?_ ?_
          rotate_left
          · rintro w' ⟨s0, s1, s2, s3⟩
            go_simp
            with_reducible rfl
          rotate_left
          · simp only [Act.put, List.setIfInBounds_toArray, List.set_cons_zero, List.set_cons_succ, i64_w, i32_w]
            rfl
          refine take_ (i := 6) (N := some 45) (v := ?_) (a' := ?_) #[true, true, true, true, true, true, true, false] rfl rfl (take_ofW HT_.out HW_.out (by kernel_rfl)) (fun _ _ _ h => h) (Or.inl ⟨by rfl, ?_⟩) hHeld ?_ ?_
          rotate_left
          · rintro w' ⟨s0, s1, s2, s3⟩
            go_simp
            with_reducible rfl
          rotate_left
          · simp only [Act.put, List.setIfInBounds_toArray, List.set_cons_zero, List.set_cons_succ, i64_w, i32_w]
            rfl
          refine one_ (i := 7) (N := none) #[true, true, true, true, true, true, true, true] rfl rfl (one_of HT_.out (by kernel_rfl)) (by decide) (fun Kx_ hKx_ => ?_)
          refine Hp.step_put HD 5 rfl rfl rfl (.tmp 42) (.tmp 44) (.tmp 45) 44 rfl 46 lawS Try.underlying44 rfl x.f0 (.string x.f0) rfl (keyS HSZ.out) x rfl (by have := HL.out; simp only [maxLen]; omega) ?_
          intro w5 H5'
          have H5 : Hp w w5 [(0, Asn.old w U), (0, Asn.top), (1, Asn.box p (cellsT s bw bk v) 67), (4, Asn.row k30 30 v s.R), (3, Asn.map kyS Try.prog 9 Value.bool bk s.K), (2, Asn.map kyS Try.prog 9 encW bw (kyS.ins x.f0 x s.W)), (9, Asn.box g #[.string x.f0, .string x.f1, .bool x.f2] 46)] := H5'
          clear H5'
          refine hKx_.out _ _ ⟨(H5.cell 2 rfl 4 (v := .map (some bw)) rfl), (H5.cell 6 rfl 0 (v := .string x.f0) rfl), (H5.cell 6 rfl 1 (v := .string x.f1) rfl), (H5.cell 6 rfl 2 (v := .bool x.f2) rfl)⟩ (fun hHeld => ?_)
          clear hKx_ Kx_
          refine norm_ (a' := ?_) ?_ ?_
          rotate_left
          · show Act.put _ (none) _ = _
            simp only [Act.put, List.setIfInBounds_toArray, List.set_cons_zero, List.set_cons_succ, i64_w, i32_w]
            rfl
          refine done_ (done_of HT_.out (by kernel_rfl)) ?_
          clear HT_ HW_ hHeld
          go_wp2
          exact bodyPost_ret (v := .int .i64 0) (by simp [results, Try.f33, go_sem]) rfl ⟨_, rfl, tx_shut (s := { s with W := kyS.ins x.f0 x s.W }) (H5.keep [0, 1, 2, 3, 4, 5]) _⟩
      · have hg' : (kyS.get x.f0 s.W).isSome = false := by simpa using hg
        have HG := Aside0.mk hg'
        by_cases hf : 64 ≤ s.W.length
        · rw [if_pos ⟨hg', hf⟩]
          have hge : (64 : Int) ≤ (s.W.length : Int) := by omega
          clear hg hg' hs he hsz hlk
          go_enter Try.func33, Try.ntmps33
          go_upto_region 7 with (first
            | ((with_reducible refine gate_dst (N := 3) rfl ?_); refine Hp.at_box H 9 ?hg (N := 3) ?hd (cs := #[.string x.f0, .string x.f1, .bool x.f2]) (t := 46) ?hr ?_; (case hd => rfl); (case hg => rfl); (case hr => first | (go_simp; done) | (go_simp; rfl)); intro g w1 H1; clear H c3 c4; have c3 := H1.cell 2 rfl 3 (v := .int .i64 s.st) rfl; have c4 := H1.cell 2 rfl 4 (v := .map (some bw)) rfl; have z0 := H1.cell 6 rfl 0 (v := .string x.f0) rfl; have z1 := H1.cell 6 rfl 1 (v := .string x.f1) rfl; have z2 := H1.cell 6 rfl 2 (v := .bool x.f2) rfl)
            | (go_at_call 45; refine (looks_calls p bw s.st _ c4 c3).mono ?_; rintro e w' ⟨rfl, rfl⟩; rw [HLK.out])
            | (go_at_call 54; refine (record_CheckWrite.calls k x.f0 x.f1 x.f2 0 _ HK.out).mono ?_; rintro e w2 ⟨rfl, hb⟩; clear c3 c4 z0 z1 z2; have H2 := H1.same hb; clear hb H1))
          have d4 := H2.drew.cell 2 rfl 4 (v := .map (some bw)) rfl
          have y0 := H2.drew.cell 6 rfl 0 (v := .string x.f0) rfl
          have H2a := H2.box_new 10 #[.string ⟨#[]⟩, .string ⟨#[]⟩, .bool false] 46
          have e4 := H2a.drew.cell 2 rfl 4 (v := .map (some bw)) rfl
          have f0 := H2a.drew.cell 6 rfl 0 (v := .string x.f0) rfl
          have l1 := look2_run (H2.drew.map_owns 5 rfl).2 lawS Try.underlying44 (zeroW _) (keyS HSZ.out)
          have l2 := look2_run (H2a.drew.map_owns 5 rfl).2 lawS Try.underlying44 (zeroW _) (keyS HSZ.out)
          rw [HG.out] at l1 l2
          unfold encW at l1 l2
          go_region
          all_goals
            clear d4 y0 e4 f0 l1 l2 H2a
            have H3' := (H2.box_new 10 #[.string ((kyS.get x.f0 s.W).getD z46).f0, .string ((kyS.get x.f0 s.W).getD z46).f1, .bool ((kyS.get x.f0 s.W).getD z46).f2] 46).drew
            have H3 := H3'.keep [0, 1, 2, 3, 4, 5, 6]
            clear H3' H2
            generalize World.drew _ = w3 at H3 ⊢
            have c4 := H3.cell 2 rfl 4 (v := .map (some bw)) rfl
            have hl3 := (H3.map_owns 5 rfl).2.len Try.underlying44 3
            rw [kyS.D_size] at hl3
            go_wp2
            exact bodyPost_ret (v := .int .i64 3) (by simp [results, Try.f33, go_sem]) rfl ⟨_, rfl, tx_shut ((H3).keep [0, 1, 2, 3, 4, 5]) _⟩
        · rw [if_neg (fun h => hf h.2)]
          have hge : ¬ (64 : Int) ≤ (s.W.length : Int) := by omega
          clear hg hg' hs he hsz hlk
          go_enter Try.func33, Try.ntmps33
          go_upto_region 7 with (first
            | ((with_reducible refine gate_dst (N := 3) rfl ?_); refine Hp.at_box H 9 ?hg (N := 3) ?hd (cs := #[.string x.f0, .string x.f1, .bool x.f2]) (t := 46) ?hr ?_; (case hd => rfl); (case hg => rfl); (case hr => first | (go_simp; done) | (go_simp; rfl)); intro g w1 H1; clear H c3 c4; have c3 := H1.cell 2 rfl 3 (v := .int .i64 s.st) rfl; have c4 := H1.cell 2 rfl 4 (v := .map (some bw)) rfl; have z0 := H1.cell 6 rfl 0 (v := .string x.f0) rfl; have z1 := H1.cell 6 rfl 1 (v := .string x.f1) rfl; have z2 := H1.cell 6 rfl 2 (v := .bool x.f2) rfl)
            | (go_at_call 45; refine (looks_calls p bw s.st _ c4 c3).mono ?_; rintro e w' ⟨rfl, rfl⟩; rw [HLK.out])
            | (go_at_call 54; refine (record_CheckWrite.calls k x.f0 x.f1 x.f2 0 _ HK.out).mono ?_; rintro e w2 ⟨rfl, hb⟩; clear c3 c4 z0 z1 z2; have H2 := H1.same hb; clear hb H1))
          have d4 := H2.drew.cell 2 rfl 4 (v := .map (some bw)) rfl
          have y0 := H2.drew.cell 6 rfl 0 (v := .string x.f0) rfl
          have H2a := H2.box_new 10 #[.string ⟨#[]⟩, .string ⟨#[]⟩, .bool false] 46
          have e4 := H2a.drew.cell 2 rfl 4 (v := .map (some bw)) rfl
          have f0 := H2a.drew.cell 6 rfl 0 (v := .string x.f0) rfl
          have l1 := look2_run (H2.drew.map_owns 5 rfl).2 lawS Try.underlying44 (zeroW _) (keyS HSZ.out)
          have l2 := look2_run (H2a.drew.map_owns 5 rfl).2 lawS Try.underlying44 (zeroW _) (keyS HSZ.out)
          rw [HG.out] at l1 l2
          unfold encW at l1 l2
          go_region
          all_goals
            clear d4 y0 e4 f0 l1 l2 H2a
            have H3' := (H2.box_new 10 #[.string ((kyS.get x.f0 s.W).getD z46).f0, .string ((kyS.get x.f0 s.W).getD z46).f1, .bool ((kyS.get x.f0 s.W).getD z46).f2] 46).drew
            have H3 := H3'.keep [0, 1, 2, 3, 4, 5, 6]
            clear H3' H2
            generalize World.drew _ = w3 at H3 ⊢
            have c4 := H3.cell 2 rfl 4 (v := .map (some bw)) rfl
            have hl3 := (H3.map_owns 5 rfl).2.len Try.underlying44 3
            rw [kyS.D_size] at hl3
            go_upto_region 10 with (first | (go_at_call 999; skip))
            clear hl3
            have HD := H3.drew
            clear c4 H3
            refine start_ (n := 8) (S := fun w' => w'.cell? ⟨p, 4, none⟩ = some (.map (some bw)) ∧ w'.cell? ⟨g, 0, none⟩ = some (.string x.f0) ∧ w'.cell? ⟨g, 1, none⟩ = some (.string x.f1) ∧ w'.cell? ⟨g, 2, none⟩ = some (.bool x.f2)) (ds := []) #[false, false, false, false, false, false, false, false] (by kernel_rfl) rfl rfl ⟨(HD.cell 2 rfl 4 (v := .map (some bw)) rfl), (HD.cell 6 rfl 0 (v := .string x.f0) rfl), (HD.cell 6 rfl 1 (v := .string x.f1) rfl), (HD.cell 6 rfl 2 (v := .bool x.f2) rfl)⟩ (fun hHeld => ?_); refine with_tabW wrT.tab10 wrT.bits10 (fun HT_ HW_ => ?_)
            refine pure_ (i := 0) (N := some 39) (v := ?_) (a' := ?_) #[true, false, false, false, false, false, false, false] rfl rfl (any_of HT_.out (by kernel_rfl)) (fun _ _ _ h => h) (Or.inl ⟨by rfl, ?_⟩) ?_ ?_
            rotate_left
            · intro w'
              go_simp
              with_reducible rfl
            rotate_left
            · simp only [Act.put, List.setIfInBounds_toArray, List.set_cons_zero, List.set_cons_succ, i64_w, i32_w]
              rfl
            refine pure_ (i := 1) (N := some 40) (v := ?_) (a' := ?_) #[true, true, false, false, false, false, false, false] rfl rfl (any_of HT_.out (by kernel_rfl)) (fun _ _ _ h => h) (Or.inl ⟨by rfl, ?_⟩) ?_ ?_
            rotate_left
            · intro w'
              go_simp
              with_reducible rfl
            rotate_left
            · simp only [Act.put, List.setIfInBounds_toArray, List.set_cons_zero, List.set_cons_succ, i64_w, i32_w]
              rfl
            refine pure_ (i := 2) (N := some 41) (v := ?_) (a' := ?_) #[true, true, true, false, false, false, false, false] rfl rfl (any_of HT_.out (by kernel_rfl)) (fun _ _ _ h => h) (Or.inl ⟨by rfl, ?_⟩) ?_ ?_
            rotate_left
            · intro w'
              go_simp
              with_reducible rfl
            rotate_left
            · simp only [Act.put, List.setIfInBounds_toArray, List.set_cons_zero, List.set_cons_succ, i64_w, i32_w]
              rfl
            refine pure_ (i := 4) (N := some 43) (v := ?_) (a' := ?_) #[true, true, true, false, true, false, false, false] rfl rfl (any_of HT_.out (by kernel_rfl)) (fun _ _ _ h => h) (Or.inl ⟨by rfl, ?_⟩) ?_ ?_
            rotate_left
            · intro w'
              go_simp
              with_reducible rfl
            rotate_left
            · simp only [Act.put, List.setIfInBounds_toArray, List.set_cons_zero, List.set_cons_succ, i64_w, i32_w]
              rfl
            refine take_ (i := 3) (N := some 42) (v := ?_) (a' := ?_) #[true, true, true, true, true, false, false, false] rfl rfl (take_ofW HT_.out HW_.out (by kernel_rfl)) (fun _ _ _ h => h) (Or.inl ⟨by rfl, ?_⟩) hHeld ?_ ?_
            rotate_left
            · rintro w' ⟨s0, s1, s2, s3⟩
              go_simp
              with_reducible rfl
            rotate_left
            · simp only [Act.put, List.setIfInBounds_toArray, List.set_cons_zero, List.set_cons_succ, i64_w, i32_w]
              rfl
            refine take_ (i := 5) (N := some 44) (v := ?_) (a' := ?_) #[true, true, true, true, true, true, false, false] rfl rfl (take_ofW HT_.out HW_.out (by kernel_rfl)) (fun _ _ _ h => h) (Or.inl ⟨by rfl, ?_⟩) hHeld ?_ ?_
            rotate_left
            · rintro w' ⟨s0, s1, s2, s3⟩
              go_simp
              with_reducible rfl
            rotate_left
            · simp only [Act.put, List.setIfInBounds_toArray, List.set_cons_zero, List.set_cons_succ, i64_w, i32_w]
              rfl
            refine take_ (i := 6) (N := some 45) (v := ?_) (a' := ?_) #[true, true, true, true, true, true, true, false] rfl rfl (take_ofW HT_.out HW_.out (by kernel_rfl)) (fun _ _ _ h => h) (Or.inl ⟨by rfl, ?_⟩) hHeld ?_ ?_
            rotate_left
            · rintro w' ⟨s0, s1, s2, s3⟩
              go_simp
              with_reducible rfl
            rotate_left
            · simp only [Act.put, List.setIfInBounds_toArray, List.set_cons_zero, List.set_cons_succ, i64_w, i32_w]
              rfl
            refine one_ (i := 7) (N := none) #[true, true, true, true, true, true, true, true] rfl rfl (one_of HT_.out (by kernel_rfl)) (by decide) (fun Kx_ hKx_ => ?_)
            refine Hp.step_put HD 5 rfl rfl rfl (.tmp 42) (.tmp 44) (.tmp 45) 44 rfl 46 lawS Try.underlying44 rfl x.f0 (.string x.f0) rfl (keyS HSZ.out) x rfl (by have := HL.out; simp only [maxLen]; omega) ?_
            intro w5 H5'
            have H5 : Hp w w5 [(0, Asn.old w U), (0, Asn.top), (1, Asn.box p (cellsT s bw bk v) 67), (4, Asn.row k30 30 v s.R), (3, Asn.map kyS Try.prog 9 Value.bool bk s.K), (2, Asn.map kyS Try.prog 9 encW bw (kyS.ins x.f0 x s.W)), (9, Asn.box g #[.string x.f0, .string x.f1, .bool x.f2] 46)] := H5'
            clear H5'
            refine hKx_.out _ _ ⟨(H5.cell 2 rfl 4 (v := .map (some bw)) rfl), (H5.cell 6 rfl 0 (v := .string x.f0) rfl), (H5.cell 6 rfl 1 (v := .string x.f1) rfl), (H5.cell 6 rfl 2 (v := .bool x.f2) rfl)⟩ (fun hHeld => ?_)
            clear hKx_ Kx_
            refine norm_ (a' := ?_) ?_ ?_
            rotate_left
            · show Act.put _ (none) _ = _
              simp only [Act.put, List.setIfInBounds_toArray, List.set_cons_zero, List.set_cons_succ, i64_w, i32_w]
              rfl
            refine done_ (done_of HT_.out (by kernel_rfl)) ?_
            clear HT_ HW_ hHeld
            go_wp2
            exact bodyPost_ret (v := .int .i64 0) (by simp [results, Try.f33, go_sem]) rfl ⟨_, rfl, tx_shut (s := { s with W := kyS.ins x.f0 x s.W }) (H5.keep [0, 1, 2, 3, 4, 5]) _⟩
    · rw [if_pos he]
      have q1 : (wrE x != 0) = true := bne_iff_ne.mpr he
      have q2 : (wrE x == 0) = false := beq_eq_false_iff_ne.mpr he
      generalize wrE x = ew at HK q1 q2 ⊢
      clear hs he hlk
      go_enter Try.func33, Try.ntmps33
      go_wp2_with (first
        | ((with_reducible refine gate_dst (N := 3) rfl ?_); refine Hp.at_box H 9 ?hg (N := 3) ?hd (cs := #[.string x.f0, .string x.f1, .bool x.f2]) (t := 46) ?hr ?_; (case hd => rfl); (case hg => rfl); (case hr => first | (go_simp; done) | (go_simp; rfl)); intro g w1 H1; clear H c3 c4; have c3 := H1.cell 2 rfl 3 (v := .int .i64 s.st) rfl; have c4 := H1.cell 2 rfl 4 (v := .map (some bw)) rfl; have z0 := H1.cell 6 rfl 0 (v := .string x.f0) rfl; have z1 := H1.cell 6 rfl 1 (v := .string x.f1) rfl; have z2 := H1.cell 6 rfl 2 (v := .bool x.f2) rfl)
        | (go_at_call 45; refine (looks_calls p bw s.st _ c4 c3).mono ?_; rintro e w' ⟨rfl, rfl⟩; rw [HLK.out])
        | (go_at_call 54; refine (record_CheckWrite.calls k x.f0 x.f1 x.f2 ew _ HK.out).mono ?_; rintro e w2 ⟨rfl, hb⟩; clear c3 c4 z0 z1 z2; have H2 := H1.same hb; clear hb H1))
      exact bodyPost_ret (v := .int .i64 ew) (by simp [results, Try.f33, go_sem]) rfl ⟨_, rfl, tx_shut ((H2).keep [0, 1, 2, 3, 4, 5]) _⟩
  · rw [if_pos hs]
    have hlk : lkE s.st = 220 := by unfold lkE; rw [if_neg hs]
    have HLK := Aside0.mk hlk
    clear hs hlk
    go_enter Try.func33, Try.ntmps33
    go_wp2_with (first
      | ((with_reducible refine gate_dst (N := 3) rfl ?_); refine Hp.at_box H 9 ?hg (N := 3) ?hd (cs := #[.string x.f0, .string x.f1, .bool x.f2]) (t := 46) ?hr ?_; (case hd => rfl); (case hg => rfl); (case hr => first | (go_simp; done) | (go_simp; rfl)); intro g w1 H1; clear H c3 c4; have c3 := H1.cell 2 rfl 3 (v := .int .i64 s.st) rfl; have c4 := H1.cell 2 rfl 4 (v := .map (some bw)) rfl; have z0 := H1.cell 6 rfl 0 (v := .string x.f0) rfl; have z1 := H1.cell 6 rfl 1 (v := .string x.f1) rfl; have z2 := H1.cell 6 rfl 2 (v := .bool x.f2) rfl)
      | (go_at_call 45; refine (looks_calls p bw s.st _ c4 c3).mono ?_; rintro e w' ⟨rfl, rfl⟩; rw [HLK.out]))
    exact bodyPost_ret (v := .int .i64 220) (by simp [results, Try.f33, go_sem]) rfl ⟨_, rfl, tx_shut ((H1).keep [0, 1, 2, 3, 4, 5]) _⟩
end Go.Proofs.Ytookibpiiphmgaa.Tn

set_option linter.unusedVariables false
set_option linter.unusedSimpArgs false
namespace Go.Proofs.Ytookibpiiphmgaa.Tn
open Go.RowKit Go.Maps Go.WideMaps Go.Proofs.Ytookibpiiphmgaa.B Go.Proofs.YtookibpiiphmgaaW.PrintWords Go.Proofs.YtookibpiiphmgaaW.PrintLast Go.Proofs.YtookibpiiphmgaaW.PrintMore Go.Proofs.YtookibpiiphmgaaW.Mine Go.Proofs.YtookibpiiphmgaaW.Hp Go.Proofs.Ytookibpiiphmgaa.Mv Go.Proofs.Ytookibpiiphmgaa.Lc

set_option maxRecDepth 100000
theorem put_tr (p : Nat) (s : TxS) (k v : ByteArray) (hl : s.W.length ≤ 1000000) : Tr Try.prog 10 #[.pointer (some ⟨p, 0, none⟩), .string k, .string v] Asn.top (isTx p s) (fun r => Asn.and (Asn.lift (r = .int .i64 (wE s ⟨k, v, false⟩).1)) (isTx p (wE s ⟨k, v, false⟩).2)) := by
  refine Tr.intro fun w U H => ?_
  have T := Aside0.mk (write_tr p s ⟨k, v, false⟩ hl)
  unfold encW at T
  dsimp only at T
  generalize wE s ⟨k, v, false⟩ = q at T ⊢
  go_enter Try.func10, Try.ntmps10
  go_wp2_with (go_at_call 33; refine (H.call T.out 2 rfl rfl (fun _ _ => trivial)).mono ?_; rintro e w1 ⟨r, rfl, H1⟩; obtain rfl := H1.fact 2 rfl (fun S h => h.1))
  exact bodyPost_ret (v := .int .i64 q.1) (by simp [results, Try.f10, go_sem]) rfl ⟨_, rfl, (H1.imp 2 (A' := Asn.and (Asn.lift (Value.int .i64 q.1 = Value.int .i64 q.1)) (isTx p q.2)) rfl (fun S h => ⟨rfl, h.2⟩)).keep [0, 2]⟩
theorem delete_tr (p : Nat) (s : TxS) (k : ByteArray) (hl : s.W.length ≤ 1000000) : Tr Try.prog 11 #[.pointer (some ⟨p, 0, none⟩), .string k] Asn.top (isTx p s) (fun r => Asn.and (Asn.lift (r = .int .i64 (wE s ⟨k, ⟨#[]⟩, true⟩).1)) (isTx p (wE s ⟨k, ⟨#[]⟩, true⟩).2)) := by
  refine Tr.intro fun w U H => ?_
  have T := Aside0.mk (write_tr p s ⟨k, ⟨#[]⟩, true⟩ hl)
  unfold encW at T
  dsimp only at T
  generalize wE s ⟨k, ⟨#[]⟩, true⟩ = q at T ⊢
  go_enter Try.func11, Try.ntmps11
  go_wp2_with (go_at_call 33; refine (H.call T.out 2 rfl rfl (fun _ _ => trivial)).mono ?_; rintro e w1 ⟨r, rfl, H1⟩; obtain rfl := H1.fact 2 rfl (fun S h => h.1))
  exact bodyPost_ret (v := .int .i64 q.1) (by simp [results, Try.f11, go_sem]) rfl ⟨_, rfl, (H1.imp 2 (A' := Asn.and (Asn.lift (Value.int .i64 q.1 = Value.int .i64 q.1)) (isTx p q.2)) rfl (fun S h => ⟨rfl, h.2⟩)).keep [0, 2]⟩
theorem new_tr (se lv sn : Int) (h1 : 0 ≤ se ∧ se ≤ 16) (h2 : lv = 1 ∨ lv = 2) (h3 : 0 ≤ sn ∧ sn ≤ 1099511627776) : Tr Try.prog 8 #[.int .i64 se, .int .i64 lv, .int .i64 sn] Asn.top Asn.top (fun r => Asn.ex fun p : Nat => Asn.and (Asn.lift (r = .tuple #[.pointer (some ⟨p, 0, none⟩), .int .i64 0])) (isTx p ⟨se, lv, sn, 1, [], [], []⟩)) := by
  refine Tr.intro fun w U H' => ?_
  have H : Hp w w [(0, Asn.old w U)] := H'.keep [0]
  clear H'
  have c0 : decide (se < 0) = false := decide_eq_false (by omega)
  have c1 : decide (16 < se) = false := decide_eq_false (by omega)
  have c2 : decide (sn < 0) = false := decide_eq_false (by omega)
  have c3 : decide (1099511627776 < sn) = false := decide_eq_false (by omega)
  have fin : ∀ (w4 : World) (b1 b2 g : Nat), Hp w w4 [(0, Asn.old w U), (2, Asn.map kyS Try.prog 9 encW b1 []), (3, Asn.map kyS Try.prog 9 Value.bool b2 []), (1, Asn.box g #[.int .i64 se, .int .i64 lv, .int .i64 sn, .int .i64 1, .map (some b1), .map (some b2), .slice none 0 0] 67)] →
      Hp w w4 [(0, Asn.old w U), (1, Asn.ex fun p : Nat => Asn.and (Asn.lift (Value.tuple #[.pointer (some ⟨g, 0, none⟩), .int .i64 0] = Value.tuple #[.pointer (some ⟨p, 0, none⟩), .int .i64 0])) (isTx p ⟨se, lv, sn, 1, [], [], []⟩))] := by
    intro w4 b1 b2 g H4
    have H5 := H4.nil k30 30 4
    exact ((((H5.join 3 1 rfl rfl (by decide) rfl rfl).join 3 2 rfl rfl (by decide) rfl rfl).join 3 4 rfl rfl (by decide) rfl rfl).imp 3 (A' := Asn.ex fun p : Nat => Asn.and (Asn.lift (Value.tuple #[.pointer (some ⟨g, 0, none⟩), .int .i64 0] = Value.tuple #[.pointer (some ⟨p, 0, none⟩), .int .i64 0])) (isTx p ⟨se, lv, sn, 1, [], [], []⟩)) rfl (fun S h => ⟨g, rfl, (b1, b2, .slice none 0 0), h⟩)).keep [0, 3]
  rcases h2 with rfl | rfl
  · go_enter Try.func8, Try.ntmps8
    go_wp2_with (first
      | ((with_reducible refine gate_dst (N := 33) rfl ?_); refine Hp.at_makeMap kyS 9 encW H 2 ?hg (N := 33) ?hd ?hr ?_; (case hd => rfl); (case hg => rfl); (case hr => first | (go_simp; done) | (go_simp; rfl)); intro b1 w1 H1; clear H)
      | ((with_reducible refine gate_dst (N := 34) rfl ?_); refine Hp.at_makeMap kyS 9 Value.bool H1 3 ?hg (N := 34) ?hd ?hr ?_; (case hd => rfl); (case hg => rfl); (case hr => first | (go_simp; done) | (go_simp; rfl)); intro b2 w2 H2; clear H1)
      | ((with_reducible refine gate_dst (N := 36) rfl ?_); refine Hp.at_box H2 1 ?hg (N := 36) ?hd (cs := #[.int .i64 se, .int .i64 1, .int .i64 sn, .int .i64 1, .map (some b1), .map (some b2), .slice none 0 0]) (t := 67) ?hr ?_; (case hd => rfl); (case hg => rfl); (case hr => first | (go_simp; done) | (go_simp; rfl)); intro g w3 H3; clear H2))
    exact bodyPost_ret (v := .tuple #[.pointer (some ⟨g, 0, none⟩), .int .i64 0]) (by simp [results, Try.f8, go_sem]) rfl ⟨_, rfl, fin _ b1 b2 g H3⟩
  · go_enter Try.func8, Try.ntmps8
    go_wp2_with (first
      | ((with_reducible refine gate_dst (N := 33) rfl ?_); refine Hp.at_makeMap kyS 9 encW H 2 ?hg (N := 33) ?hd ?hr ?_; (case hd => rfl); (case hg => rfl); (case hr => first | (go_simp; done) | (go_simp; rfl)); intro b1 w1 H1; clear H)
      | ((with_reducible refine gate_dst (N := 34) rfl ?_); refine Hp.at_makeMap kyS 9 Value.bool H1 3 ?hg (N := 34) ?hd ?hr ?_; (case hd => rfl); (case hg => rfl); (case hr => first | (go_simp; done) | (go_simp; rfl)); intro b2 w2 H2; clear H1)
      | ((with_reducible refine gate_dst (N := 36) rfl ?_); refine Hp.at_box H2 1 ?hg (N := 36) ?hd (cs := #[.int .i64 se, .int .i64 2, .int .i64 sn, .int .i64 1, .map (some b1), .map (some b2), .slice none 0 0]) (t := 67) ?hr ?_; (case hd => rfl); (case hg => rfl); (case hr => first | (go_simp; done) | (go_simp; rfl)); intro g w3 H3; clear H2))
    exact bodyPost_ret (v := .tuple #[.pointer (some ⟨g, 0, none⟩), .int .i64 0]) (by simp [results, Try.f8, go_sem]) rfl ⟨_, rfl, fin _ b1 b2 g H3⟩
set_option maxHeartbeats 4000000 in
theorem own_tr (p : Nat) (s : TxS) (k : ByteArray) (hk : k.size ≤ maxLen) : Tr Try.prog 17 #[.pointer (some ⟨p, 0, none⟩), .string k] Asn.top (isTx p s) (fun r => Asn.and (Asn.lift (r = .tuple #[encW ((kyS.get k s.W).getD z46), .bool (kyS.get k s.W).isSome])) (isTx p s)) := by
  refine Tr.intro fun w U H0 => ?_
  obtain ⟨bw, bk, v, H⟩ := tx_open H0
  clear H0
  have HK := Aside0.mk hk
  clear hk
  have H1 := H.box_new 9 #[.string ⟨#[]⟩, .string ⟨#[]⟩, .bool false] 46
  have c4 := H1.cell 2 rfl 4 (v := .map (some bw)) rfl
  have z0 := H1.cell 6 rfl 0 (v := .string ⟨#[]⟩) rfl
  have z1 := H1.cell 6 rfl 1 (v := .string ⟨#[]⟩) rfl
  have z2 := H1.cell 6 rfl 2 (v := .bool false) rfl
  have l1 := look2_run (H1.map_owns 5 rfl).2 lawS Try.underlying44 (zeroW _) (keyS HK.out)
  have HE : Aside0 (encW ((kyS.get k s.W).getD z46) = .agg #[.string ((kyS.get k s.W).getD z46).f0, .string ((kyS.get k s.W).getD z46).f1, .bool ((kyS.get k s.W).getD z46).f2]) := ⟨rfl⟩
  rw [HE.out] at l1
  generalize (kyS.get k s.W).getD z46 = x at l1 HE ⊢
  generalize (kyS.get k s.W).isSome = is at l1 ⊢
  go_enter Try.func17, Try.ntmps17
  go_wp2_with (first
    | (go_at_call 34; refine (none_calls p bw _ c4).mono ?_; rintro e w' ⟨rfl, rfl⟩))
  have H2 := (H.box_new 9 #[.string x.f0, .string x.f1, .bool x.f2] 46).box_new 10 #[.string x.f0, .string x.f1, .bool x.f2] 46
  have y0 := H2.cell 6 rfl 0 (v := .string x.f0) rfl
  have y1 := H2.cell 6 rfl 1 (v := .string x.f1) rfl
  have y2 := H2.cell 6 rfl 2 (v := .bool x.f2) rfl
  exact bodyPost_ret (v := .tuple #[encW x, .bool is]) (by unfold encW; simp [results, Try.f17, go_sem, y0, y1, y2]) rfl ⟨_, rfl, tx_shut (H2.keep [0, 1, 2, 3, 4, 5]) _⟩
end Go.Proofs.Ytookibpiiphmgaa.Tn

set_option linter.unusedVariables false
set_option linter.unusedSimpArgs false
namespace Go.Proofs.Ytookibpiiphmgaa.Tn
open Go.RowKit Go.Maps Go.WideMaps Go.Proofs.Ytookibpiiphmgaa.B Go.Proofs.YtookibpiiphmgaaW.PrintWords Go.Proofs.YtookibpiiphmgaaW.PrintLast Go.Proofs.YtookibpiiphmgaaW.PrintMore Go.Proofs.YtookibpiiphmgaaW.Mine Go.Proofs.YtookibpiiphmgaaW.Hp Go.Proofs.Ytookibpiiphmgaa.Mv Go.Proofs.Ytookibpiiphmgaa.Lc

set_option maxRecDepth 100000
def isRowW (l : List S46) : Value → Option Addr × Nat → Prop := fun r x => r = .slice x.1 l.length x.2 ∧ l.length ≤ x.2
theorem srt_headW {α : Type} {l : List (ByteArray × α)} (h : kyS.Srt l) (i : Nat) (hi : i < l.length) : kyS.get (l[i]'hi).1 l = some (l[i]'hi).2 := srt_head h i hi
theorem relab3 {w0 w : World} {O X Y : Asn} {j : Nat} (H : Hp w0 w [(0, O), (1, X), (j, Y)]) (h0 : j ≠ 0) (h1 : j ≠ 1) : Hp w0 w [(0, O), (1, X), (2, Y)] := by
  obtain ⟨lab, hO, hX, hY, _⟩ := H.all
  refine ⟨H.os, H.tape, H.output, H.size, fun k => if lab k = j then 2 else if lab k = 0 then 0 else if lab k = 1 then 1 else 3, O.mono hO ?_, X.mono hX ?_, Y.mono hY ?_, trivial⟩
  · intro k _ hk
    show (if lab k = j then 2 else if lab k = 0 then 0 else if lab k = 1 then 1 else 3) = 0
    rw [if_neg (by omega), if_pos hk]
  · intro k _ hk
    show (if lab k = j then 2 else if lab k = 0 then 0 else if lab k = 1 then 1 else 3) = 1
    rw [if_neg (by omega), if_neg (by omega), if_pos hk]
  · intro k _ hk
    show (if lab k = j then 2 else if lab k = 0 then 0 else if lab k = 1 then 1 else 3) = 2
    rw [if_pos hk]
theorem tx_shut3 {w0 w : World} {U : Nat → Prop} {p bw bk j : Nat} {v : Value} {s : TxS} {Y : Asn} (H : Hp w0 w [(0, Asn.old w0 U), (1, Asn.box p (cellsT s bw bk v) 67), (4, Asn.row k30 30 v s.R), (3, Asn.map kyS Try.prog 9 Value.bool bk s.K), (2, Asn.map kyS Try.prog 9 encW bw s.W), (6, Y)]) : Hp w0 w [(0, Asn.old w0 U), (1, isTx p s), (2, Y)] :=
  relab3 (j := 6) (((((H.join 1 4 rfl rfl (by decide) rfl rfl).join 1 3 rfl rfl (by decide) rfl rfl).join 1 2 rfl rfl (by decide) rfl rfl).imp 1 (A' := isTx p s) rfl (fun S h => ⟨(bw, bk, v), h⟩)).keep [0, 1, 5]) (by decide) (by decide)
set_option maxHeartbeats 8000000 in
theorem writes_tr (p : Nat) (s : TxS) (hl : s.W.length ≤ 1000000) :
    TrS Try.prog 12 #[.pointer (some ⟨p, 0, none⟩)] Asn.top (isTx p s) (isRowW (s.W.map Prod.snd)) (fun _ => isTx p s) (fun x => Asn.row k46 46 (.slice x.1 (s.W.map Prod.snd).length x.2) (s.W.map Prod.snd)) := by
  refine TrS.intro fun w U H0 => ?_
  obtain ⟨bw, bk, v, H'⟩ := tx_open H0
  have H : Hp w w [(0, Asn.old w U), (1, Asn.box p (cellsT s bw bk v) 67), (4, Asn.row k30 30 v s.R), (3, Asn.map kyS Try.prog 9 Value.bool bk s.K), (2, Asn.map kyS Try.prog 9 encW bw s.W)] := H'.keep [0, 2, 3, 4, 5]
  clear H0 H'
  have HK := Aside0.mk (map_key H 4 rfl)
  have HS := Aside0.mk (H.map_owns 4 rfl).1
  have HL := Aside0.mk hl
  have c4 := H.cell 1 rfl 4 (v := .map (some bw)) rfl
  clear hl
  go_enter Try.func12, Try.ntmps12
  go_wp2_with (first
    | (go_at_call 34; refine (none_calls p bw _ c4).mono ?_; rintro e w' ⟨rfl, rfl⟩)
    | (go_at_call 36; refine (It.keysOf36 _ _).mono ?_; rintro e w1 ⟨rfl, rfl⟩)
    | (go_at_call 35; refine (It.sorted36 H 4 rfl (by have := HL.out; omega) 5).mono ?_; rintro e w2 ⟨A2, c2, rfl, hc2, H2'⟩; have H2 : Hp w w2 [(0, Asn.old w U), (1, Asn.box p (cellsT s bw bk v) 67), (4, Asn.row k30 30 v s.R), (3, Asn.map kyS Try.prog 9 Value.bool bk s.K), (2, Asn.map kyS Try.prog 9 encW bw s.W), (5, Asn.row Kd.string 9 (.slice A2 s.W.length c2) (s.W.map Prod.fst))] := H2'; clear H H2' hc2 c4))
  have HN := Aside0.mk ((H2.nil k46 46 6))
  go_loopg [3, 15] s.W.length (fun gk v3 v15 wr' => ∃ (i : Nat) (A : Option Addr) (c : Nat), v15 = .int .i64 i ∧ i ≤ s.W.length ∧ s.W.length - i ≤ gk ∧ v3 = .slice A i c ∧ Aside0 (Hp w wr' [(0, Asn.old w U), (1, Asn.box p (cellsT s bw bk v) 67), (4, Asn.row k30 30 v s.R), (3, Asn.map kyS Try.prog 9 Value.bool bk s.K), (2, Asn.map kyS Try.prog 9 encW bw s.W), (5, Asn.row Kd.string 9 (.slice A2 s.W.length c2) (s.W.map Prod.fst)), (6, Asn.row k46 46 (.slice A i c) ((s.W.take i).map Prod.snd))]))
  case atStart => exact ⟨0, none, 0, rfl, Nat.zero_le _, by omega, rfl, HN⟩
  case round =>
    clear HN H2
    obtain ⟨i, A3, c3, rfl, hil, hgk, rfl, HO⟩ := hrel
    by_cases hlt : i < s.W.length
    · have hltz : (i : Int) < (s.W.length : Int) := by omega
      have hlm : (s.W.map Prod.fst).length = s.W.length := List.length_map _
      obtain ⟨q, cap, he, _, _, _⟩ := HO.out.fact 5 rfl (fun _ h => Kd.R_form h (by rw [hlm]; omega))
      injection he with he1 he2 he3
      subst he1
      obtain ⟨x0, u0⟩ := HO.out.fact 5 rfl (fun _ h => Kd.R_cell (enc := Value.string) (h1 := fun _ => rfl) ByteArray.empty (by rw [← hlm] at h; exact h) (i : Int) (by omega) (by rw [hlm]; omega))
      rw [Int.toNat_natCast] at x0 u0
      have hk : rdOf ByteArray.empty (s.W.map Prod.fst) (i : Int) = (s.W[i]'hlt).1 := by
        show (s.W.map Prod.fst).getD i ByteArray.empty = _
        rw [List.getD_eq_getElem?_getD, List.getElem?_map, List.getElem?_eq_getElem hlt]
        rfl
      rw [hk] at x0
      have HG := Aside0.mk (srt_headW HS.out i hlt)
      have HKK := Aside0.mk (HK.out _ (List.getElem_mem hlt))
      have HT : Aside0 ((s.W.take i).map Prod.snd ++ [(s.W[i]'hlt).2] = (s.W.take (i + 1)).map Prod.snd) := ⟨by rw [List.take_succ_eq_append_getElem hlt, List.map_append]; rfl⟩
      have HTL : Aside0 (((s.W.take i).map Prod.snd).length = i) := ⟨by rw [List.length_map, List.length_take]; omega⟩
      have HTL2 : Aside0 (((s.W.take (i + 1)).map Prod.snd).length = i + 1) := ⟨by rw [List.length_map, List.length_take]; omega⟩
      generalize s.W[i]'hlt = kv at x0 HG HKK HT
      obtain ⟨k0, y⟩ := kv
      dsimp only at x0 HG HKK HT
      have HGK := Aside0.mk hgk
      have HIL := Aside0.mk hlt
      have H3 := HO.out
      have c4 := H3.cell 1 rfl 4 (v := .map (some bw)) rfl
      clear HO hgk hk he2 he3 u0 hil hlm
      go_wp2_with (first
        | (at_lookup; refine Hp.at_look H3 4 rfl rfl (.tmp 23) (.tmp 24) 44 46 rfl lawS Try.underlying44 z46 (zeroW _) rfl k0 (.string k0) rfl (keyS HKK.out) ?_; rw [HG.out]; dsimp only [Option.getD, encW])
        | ((with_reducible refine gate_builtin (b := .append) (xs := #[.tmp 19, .tmp 26]) rfl ?_); at_builtin; refine Hp.at_append k46 H3 6 rfl (.tmp 19) (.tmp 26) 36 46 (.agg #[.string ⟨#[]⟩, .string ⟨#[]⟩, .bool false]) 40 rfl Try.underlying36 infow rfl (by decide) (by omega) (.slice A3 i c3) ((s.W.take i).map Prod.snd) rfl rfl y [.string y.f0, .string y.f1, .bool y.f2] ?hs ?hx (fun _ => k46_mkM _ _ _ _) (by rw [HTL.out]; have := HIL.out; have := HL.out; omega) ?_; (case hs => rfl); (case hx => rfl); intro v4 w4 H4'; rw [HT.out] at H4'; obtain ⟨A4, c4', hv4⟩ := H4'.fact 6 rfl (fun _ h => Kd.R_slice h); rw [HTL2.out] at hv4; subst hv4; have H4 : Hp w w4 [(0, Asn.old w U), (1, Asn.box p (cellsT s bw bk v) 67), (4, Asn.row k30 30 v s.R), (3, Asn.map kyS Try.prog 9 Value.bool bk s.K), (2, Asn.map kyS Try.prog 9 encW bw s.W), (5, Asn.row Kd.string 9 (.slice (some ⟨q, 0, none⟩) s.W.length c2) (s.W.map Prod.fst)), (6, Asn.row k46 46 (.slice A4 (i + 1) c4') ((s.W.take (i + 1)).map Prod.snd))] := H4'; clear H3 H4' x0 c4))
      go_roundg (s.W.length - (i + 1))
      case measure => have := HGK.out; omega
      case rel =>
        have hi1 : i < 1099511627776 := by have := HL.out; have := HIL.out; omega
        exact ⟨i + 1, A4, c4', by first | rfl | exact nx hi1, by have := HIL.out; omega, by omega, rfl, ⟨H4⟩⟩
    · have hle : i = s.W.length := by omega
      have hltz : ¬ (i : Int) < (s.W.length : Int) := by omega
      subst hle
      have H3 := HO.out
      clear HO hgk hil hlt
      rw [List.take_length] at H3
      have hlen : (s.W.map Prod.snd).length = s.W.length := List.length_map _
      have hc3 := (H3.row_C 6 rfl).2.1
      have H5 := tx_shut3 (j := 6) (H3.keep [0, 1, 2, 3, 4, 6])
      go_wp2
      refine bodyPost_ret (v := .slice A3 s.W.length c3) (by simp [results, Try.f12, go_sem]) rfl (EndS.mk (A3, c3) ⟨by rw [hlen], by rw [hlen]; exact hc3⟩ ?_)
      first
        | exact H5
        | (rw [hlen]; exact H5)
end Go.Proofs.Ytookibpiiphmgaa.Tn

set_option linter.unusedVariables false
set_option linter.unusedSimpArgs false
namespace Go.Proofs.Ytookibpiiphmgaa.Tn
open Go.RowKit Go.Maps Go.WideMaps Go.Proofs.Ytookibpiiphmgaa.B Go.Proofs.YtookibpiiphmgaaW.PrintWords Go.Proofs.YtookibpiiphmgaaW.PrintLast Go.Proofs.YtookibpiiphmgaaW.PrintMore Go.Proofs.YtookibpiiphmgaaW.Mine Go.Proofs.YtookibpiiphmgaaW.Hp Go.Proofs.Ytookibpiiphmgaa.Mv Go.Proofs.Ytookibpiiphmgaa.Lc

set_option maxRecDepth 100000
def okW (W : List (ByteArray × S46)) : Prop := ∀ q ∈ W, q.2.f0 = q.1 ∧ wrE q.2 = 0
theorem isTx_cell {p : Nat} {s : TxS} {w : World} {S : Nat → Prop} (h : (isTx p s).P w S) : ∃ bw, w.cell? ⟨p, 4, none⟩ = some (.map (some bw)) := by
  obtain ⟨⟨bw, bk, v⟩, _, _, _, _, ⟨_, _, _, _, ⟨_, _, _, _, hp, _⟩, _⟩, _⟩ := h
  exact ⟨bw, (blk_cell hp.1 4).trans rfl⟩
def seen (s : TxS) (r : S30) (m : List S50) : List S50 := sl r ((ov m (s.W.map Prod.snd)).map pr)
def toT.T3 : Bool × List (List Nat × List Nat) := (true, [([], []), ([], []), ([1], [1]), ([0, 2, 2], [0, 2]), ([], []), ([3, 4, 3], [3, 4]), ([5, 5, 0, 1, 2, 3, 4, 5], [5])])
def toT.B3 : List Nat := [0, 0, 2, 7, 0, 31, 63]
theorem toT.tab3 : rtab .any (opsOf Try.f15 3) = toT.T3 := by kernel_rfl
theorem toT.bits3 : waitsOk toT.T3.2 toT.B3 = true := by kernel_rfl
set_option maxHeartbeats 8000000 in
theorem toverlay_tr (p : Nat) (s : TxS) (r : S30) (A0 : Option Addr) (c0 : Nat) (m : List S50) (hl : s.W.length ≤ 1000000) (hok : okW s.W) (hk : ∀ x ∈ m, x.f0.size ≤ maxLen) (hm : m.length < 549755813888) :
    TrS Try.prog 15 #[.pointer (some ⟨p, 0, none⟩), .agg #[.string r.f0, .string r.f1], .slice A0 m.length c0] (Asn.rd k50 A0 m.length m) (isTx p s) (isRow (seen s r m)) (fun _ => isTx p s) (fun x => Asn.row k50 50 (.slice x.1 (seen s r m).length x.2) (seen s r m)) := by
  refine TrS.intro fun w U H => ?_
  obtain ⟨bw, c4⟩ := H.fact 2 rfl (fun S h => isTx_cell h)
  have hwk : ∀ y ∈ s.W.map Prod.snd, y.f0.size ≤ maxLen := by
    intro y hy
    obtain ⟨q, hq, rfl⟩ := List.mem_map.1 hy
    have h1 := wr_key (hok q hq).2
    simp only [maxLen]
    omega
  have hwl : (s.W.map Prod.snd).length = s.W.length := List.length_map _
  have T1 := Aside0.mk (writes_tr p s hl)
  have T2 := Aside0.mk (fun A1 c1 => overlay_tr A0 c0 m A1 c1 (s.W.map Prod.snd) hk hwk hm (by rw [hwl]; omega))
  have hol := ov_len m (s.W.map Prod.snd)
  have T3 := Aside0.mk (fun A2 c2 hc => slice_tr A2 c2 ((ov m (s.W.map Prod.snd)).map pr) r hc (by rw [List.length_map]; rw [hwl] at hol; omega))
  have HSN : Aside0 (sl r ((ov m (s.W.map Prod.snd)).map pr) = seen s r m) := ⟨rfl⟩
  clear hk hwk hok hol hwl hm
  generalize s.W.map Prod.snd = ws at T1 T2 T3 HSN
  generalize (ov m ws).map pr = os at T2 T3 HSN
  generalize seen s r m = res at HSN ⊢
  obtain rfl := HSN.out
  clear HSN
  go_enter Try.func15, Try.ntmps15
  go_wp2_with (first
    | ((with_reducible refine gate_dst (N := 4) rfl ?_); refine Hp.at_box H 3 ?hg (N := 4) ?hd (cs := #[.string r.f0, .string r.f1]) (t := 30) ?hr ?_; (case hd => rfl); (case hg => rfl); (case hr => first | (go_simp; done) | (go_simp; rfl)); intro g w1 H1; clear H c4; obtain ⟨bw, c4⟩ := H1.fact 2 rfl (fun S h => isTx_cell h))
    | (go_at_call 34; refine (none_calls p bw _ c4).mono ?_; rintro e w' ⟨rfl, rfl⟩))
  have HD' := H1.drew
  have HD : Hp w w1.drew [(0, Asn.old w U), (0, Asn.rd k50 A0 m.length m), (1, isTx p s), (3, Asn.box g #[.string r.f0, .string r.f1] 30)] := HD'
  clear HD' H1 c4
  refine start_ (n := 7) (S := fun w' => w'.cell? ⟨g, 0, none⟩ = some (.string r.f0) ∧ w'.cell? ⟨g, 1, none⟩ = some (.string r.f1)) (ds := []) #[false, false, false, false, false, false, false] (by kernel_rfl) rfl rfl ⟨(HD.cell 3 rfl 0 (v := .string r.f0) rfl), (HD.cell 3 rfl 1 (v := .string r.f1) rfl)⟩ (fun hHeld => ?_); refine with_tabW toT.tab3 toT.bits3 (fun HT_ HW_ => ?_)
  refine pure_ (i := 0) (N := some 9) (v := ?_) (a' := ?_) #[true, false, false, false, false, false, false] rfl rfl (any_of HT_.out (by kernel_rfl)) (fun _ _ _ h => h) (Or.inl ⟨by rfl, ?_⟩) ?_ ?_
  rotate_left
  · intro w'
    go_simp
    with_reducible rfl
  rotate_left
  · simp only [Act.put, List.setIfInBounds_toArray, List.set_cons_zero, List.set_cons_succ, i64_w, i32_w]
    rfl
  refine pure_ (i := 1) (N := some 10) (v := ?_) (a' := ?_) #[true, true, false, false, false, false, false] rfl rfl (any_of HT_.out (by kernel_rfl)) (fun _ _ _ h => h) (Or.inl ⟨by rfl, ?_⟩) ?_ ?_
  rotate_left
  · intro w'
    go_simp
    with_reducible rfl
  rotate_left
  · simp only [Act.put, List.setIfInBounds_toArray, List.set_cons_zero, List.set_cons_succ, i64_w, i32_w]
    rfl
  refine take_ (i := 4) (N := some 13) (v := ?_) (a' := ?_) #[true, true, false, false, true, false, false] rfl rfl (take_ofW HT_.out HW_.out (by kernel_rfl)) (fun _ _ _ h => h) (Or.inl ⟨by rfl, ?_⟩) hHeld ?_ ?_
  rotate_left
  · rintro w' ⟨s0, s1⟩
    go_simp
    with_reducible rfl
  rotate_left
  · simp only [Act.put, List.setIfInBounds_toArray, List.set_cons_zero, List.set_cons_succ, i64_w, i32_w]
    rfl
  refine one_ (i := 2) (N := some 11) #[true, true, true, false, true, false, false] rfl rfl (one_of HT_.out (by kernel_rfl)) (by decide) (fun Kx_ hKx_ => ?_)
  refine goes_ Try.func12 (by kernel_rfl) rfl #[.pointer (some ⟨p, 0, none⟩)] (by rfl) rfl rfl (by (try simp only [List.map_toArray, List.map_cons, List.map_nil]); first | done | rfl) ?_
  refine (HD.call_star T1.out 2 rfl rfl (fun _ _ => trivial) 4 (by decide)).mono ?_
  rintro e w2 ⟨q, ⟨A2, c2⟩, rfl, hφ, H2'⟩
  obtain ⟨rfl, hc2⟩ := hφ
  have H2 : Hp w w2 [(0, Asn.old w U), (0, Asn.rd k50 A0 m.length m), (1, isTx p s), (3, Asn.box g #[.string r.f0, .string r.f1] 30), (4, Asn.row k46 46 (.slice A2 ws.length c2) ws)] := H2'
  clear H2'
  refine ⟨_, rfl, ?_⟩
  refine hKx_.out _ _ ⟨(H2.cell 3 rfl 0 (v := .string r.f0) rfl), (H2.cell 3 rfl 1 (v := .string r.f1) rfl)⟩ (fun hHeld => ?_)
  clear hKx_ Kx_
  refine norm_ (a' := ?_) ?_ ?_
  rotate_left
  · show Act.put _ (some 11) _ = _
    simp only [Act.put, List.setIfInBounds_toArray, List.set_cons_zero, List.set_cons_succ, i64_w, i32_w]
    rfl
  refine one_ (i := 3) (N := some 12) #[true, true, true, true, true, false, false] rfl rfl (one_of HT_.out (by kernel_rfl)) (by decide) (fun Kx_ hKx_ => ?_)
  refine goes_ Try.func43 (by kernel_rfl) rfl #[.slice A0 m.length c0, .slice A2 ws.length c2] (by rfl) rfl rfl (by (try simp only [List.map_toArray, List.map_cons, List.map_nil]); first | done | rfl) ?_
  refine (H2.make 5 (T2.out A2 c2) (fun lab h => ⟨(Asn.rd k50 A0 _ _).mono (h.get (p := 1) rfl) (fun _ _ _ => trivial), (Asn.rd k46 A2 _ _).mono (row_rd (h.get (p := 4) rfl)) (fun _ _ _ => trivial)⟩)).mono ?_
  rintro e w3 ⟨q, rfl, H3'⟩
  obtain ⟨⟨A3, c3⟩, H3''⟩ := H3'.open_ 5 rfl
  obtain ⟨rfl, hc3⟩ := H3''.fact 5 rfl (fun S h => h.1)
  have H3 : Hp w w3 [(0, Asn.old w U), (1, isTx p s), (3, Asn.box g #[.string r.f0, .string r.f1] 30), (5, Asn.row k50 50 (.slice A3 os.length c3) os)] := (H3''.imp 5 rfl (fun S h => h.2)).keep [0, 2, 3, 5]
  clear H3' H3''
  refine ⟨_, rfl, ?_⟩
  refine hKx_.out _ _ ⟨(H3.cell 2 rfl 0 (v := .string r.f0) rfl), (H3.cell 2 rfl 1 (v := .string r.f1) rfl)⟩ (fun hHeld => ?_)
  clear hKx_ Kx_
  refine norm_ (a' := ?_) ?_ ?_
  rotate_left
  · show Act.put _ (some 12) _ = _
    simp only [Act.put, List.setIfInBounds_toArray, List.set_cons_zero, List.set_cons_succ, i64_w, i32_w]
    rfl
  refine one_ (i := 5) (N := some 14) #[true, true, true, true, true, true, false] rfl rfl (one_of HT_.out (by kernel_rfl)) (by decide) (fun Kx_ hKx_ => ?_)
  refine goes_ Try.func42 (by kernel_rfl) rfl #[.slice A3 os.length c3, .agg #[.string r.f0, .string r.f1]] (by rfl) rfl rfl (by (try simp only [List.map_toArray, List.map_cons, List.map_nil]); first | done | rfl) ?_
  refine (H3.make 2 (T3.out A3 c3 hc3) (fun lab h => (Asn.rd k50 A3 _ _).mono (row_rd (h.get (p := 3) rfl)) (fun _ _ _ => trivial))).mono ?_
  rintro e w4 ⟨q, rfl, H4'⟩
  obtain ⟨⟨A4, c4⟩, H4''⟩ := H4'.open_ 4 rfl
  obtain ⟨rfl, hc4⟩ := H4''.fact 4 rfl (fun S h => h.1)
  have H4 : Hp w w4 [(0, Asn.old w U), (1, isTx p s), (3, Asn.box g #[.string r.f0, .string r.f1] 30), (2, Asn.row k50 50 (.slice A4 (sl r os).length c4) (sl r os))] := (H4''.imp 4 rfl (fun S h => h.2)).keep [0, 1, 2, 4]
  clear H4' H4''
  refine ⟨_, rfl, ?_⟩
  refine hKx_.out _ _ ⟨(H4.cell 2 rfl 0 (v := .string r.f0) rfl), (H4.cell 2 rfl 1 (v := .string r.f1) rfl)⟩ (fun hHeld => ?_)
  clear hKx_ Kx_
  refine norm_ (a' := ?_) ?_ ?_
  rotate_left
  · show Act.put _ (some 14) _ = _
    simp only [Act.put, List.setIfInBounds_toArray, List.set_cons_zero, List.set_cons_succ, i64_w, i32_w]
    rfl
  refine pure_ (i := 6) (N := some 6) (v := ?_) (a' := ?_) #[true, true, true, true, true, true, true] rfl rfl (any_of HT_.out (by kernel_rfl)) (fun _ _ _ h => h) (Or.inl ⟨by rfl, ?_⟩) ?_ ?_
  rotate_left
  · intro w'
    go_simp
    with_reducible rfl
  rotate_left
  · simp only [Act.put, List.setIfInBounds_toArray, List.set_cons_zero, List.set_cons_succ, i64_w, i32_w]
    rfl
  refine done_ (done_of HT_.out (by kernel_rfl)) ?_
  clear HT_ HW_ hHeld
  go_wp2
  exact bodyPost_ret (v := .slice A4 (sl r os).length c4) (by simp [results, Try.f15, go_sem]) rfl (EndS.mk (A4, c4) ⟨rfl, hc4⟩ (H4.keep [0, 1, 3]))
end Go.Proofs.Ytookibpiiphmgaa.Tn

set_option linter.unusedVariables false
set_option linter.unusedSimpArgs false
namespace Go.Proofs.Ytookibpiiphmgaa.Tn
open Go.RowKit Go.Maps Go.WideMaps Go.Proofs.Ytookibpiiphmgaa.B Go.Proofs.YtookibpiiphmgaaW.PrintWords Go.Proofs.YtookibpiiphmgaaW.PrintLast Go.Proofs.YtookibpiiphmgaaW.PrintMore Go.Proofs.YtookibpiiphmgaaW.Mine Go.Proofs.YtookibpiiphmgaaW.Hp Go.Proofs.Ytookibpiiphmgaa.Mv Go.Proofs.Ytookibpiiphmgaa.Lc

set_option maxRecDepth 100000
def bA : TxS := ⟨0, 2, 3, 1, [], [], []⟩
def bB : TxS := ⟨0, 2, 3, 1, [(⟨#[97]⟩, ⟨⟨#[97]⟩, ⟨#[49]⟩, false⟩)], [], []⟩
def bC : TxS := ⟨0, 2, 3, 1, [(⟨#[97]⟩, ⟨⟨#[97]⟩, ⟨#[49]⟩, false⟩), (⟨#[98]⟩, ⟨⟨#[98]⟩, ⟨#[]⟩, true⟩)], [], []⟩
theorem bg1 : wE bA ⟨⟨#[97]⟩, ⟨#[49]⟩, false⟩ = (0, bB) := by kernel_rfl
theorem bg2 : wE bB ⟨⟨#[98]⟩, ⟨#[]⟩, true⟩ = (0, bC) := by kernel_rfl
def bm : List S50 := [⟨⟨#[97]⟩, ⟨#[48]⟩⟩, ⟨⟨#[98]⟩, ⟨#[48]⟩⟩, ⟨⟨#[99]⟩, ⟨#[48]⟩⟩]
def br : List S50 := [⟨⟨#[97]⟩, ⟨#[49]⟩⟩, ⟨⟨#[99]⟩, ⟨#[48]⟩⟩]
theorem bg3 : seen bC ⟨⟨#[]⟩, ⟨#[]⟩⟩ bm = br := by kernel_rfl
theorem bg4 : (kyS.get ⟨#[97]⟩ bC.W).getD z46 = ⟨⟨#[97]⟩, ⟨#[49]⟩, false⟩ ∧ (kyS.get ⟨#[97]⟩ bC.W).isSome = true := ⟨by kernel_rfl, by kernel_rfl⟩
theorem bg5 : okW bC.W := by
  intro q hq
  rcases List.mem_cons.1 hq with rfl | hq
  · exact ⟨rfl, by kernel_rfl⟩
  · rw [List.mem_singleton.1 hq]
    exact ⟨rfl, by kernel_rfl⟩
theorem bg6 : api_Pair_32.f 9 br br = some true := by kernel_rfl
set_option maxHeartbeats 8000000 in
theorem begun_calls (w : World) : Calls Try.prog 9 #[] w fun e w' => e = .returned (.bool true) ∧ Below w.heap.size w w' := by
  have H := Hp.start w
  have T1 := Aside0.mk (fun p => put_tr p bA ⟨#[97]⟩ ⟨#[49]⟩ (by decide))
  rw [bg1] at T1
  dsimp only at T1
  have T2 := Aside0.mk (fun p => delete_tr p bB ⟨#[98]⟩ (by decide))
  rw [bg2] at T2
  dsimp only at T2
  have T3 := Aside0.mk (fun p A c => toverlay_tr p bC ⟨⟨#[]⟩, ⟨#[]⟩⟩ A c bm (by decide) bg5 (by intro x hx; simp only [bm, List.mem_cons, List.not_mem_nil, or_false] at hx; rcases hx with rfl | rfl | rfl <;> (show 1 ≤ maxLen; decide)) (by decide))
  rw [bg3] at T3
  have T4 := Aside0.mk (fun p => own_tr p bC ⟨#[97]⟩ (by show 1 ≤ maxLen; decide))
  rw [bg4.1, bg4.2] at T4
  unfold encW at T4
  dsimp only at T3 T4
  go_enter Try.func9, Try.ntmps9
  go_wp2_with (first
    | (go_at_call 8; refine (H.make 1 (new_tr 0 2 3 ⟨by decide, by decide⟩ (.inr rfl) ⟨by decide, by decide⟩) (fun _ _ => trivial)).mono ?_; rintro e w1 ⟨r, rfl, H1'⟩; obtain ⟨p, H1''⟩ := H1'.open_ 1 rfl; obtain rfl := H1''.fact 1 rfl (fun S h => h.1); have H1 : Hp w w1 [(0, Asn.old w (fun _ => False)), (1, isTx p bA)] := H1''.imp 1 rfl (fun S h => h.2); clear H1' H1'' H)
    | (go_at_call 10; refine (H1.call (T1.out p) 1 rfl rfl (fun _ _ => trivial)).mono ?_; rintro e w2 ⟨r, rfl, H2'⟩; obtain rfl := H2'.fact 1 rfl (fun S h => h.1); have H2 : Hp w w2 [(0, Asn.old w (fun _ => False)), (1, isTx p bB)] := H2'.imp 1 (A' := isTx p bB) rfl (fun S h => h.2); clear H2' H1)
    | (go_at_call 11; refine (H2.call (T2.out p) 1 rfl rfl (fun _ _ => trivial)).mono ?_; rintro e w3 ⟨r, rfl, H3'⟩; obtain rfl := H3'.fact 1 rfl (fun S h => h.1); have H3 : Hp w w3 [(0, Asn.old w (fun _ => False)), (1, isTx p bC)] := H3'.imp 1 (A' := isTx p bC) rfl (fun S h => h.2); clear H3' H2)
    | ((with_reducible refine gate_dst (N := 31) rfl ?_); refine Hp.at_lit k50 H3 2 50 ?hg (N := 31) ?hd (xs := bm) (inner := [.string ⟨#[97]⟩, .string ⟨#[48]⟩, .string ⟨#[98]⟩, .string ⟨#[48]⟩, .string ⟨#[99]⟩, .string ⟨#[48]⟩]) ?hr ?hp (by decide) ?_; (case hd => rfl); (case hg => rfl); (case hr => first | (go_simp; done) | (go_simp; rfl)); (case hp => exact fun _ => Reps.c2 (k50_mkM _ _ _ (⟨⟨#[97]⟩, ⟨#[48]⟩⟩ : S50)) (Reps.c2 (k50_mkM _ _ _ (⟨⟨#[98]⟩, ⟨#[48]⟩⟩ : S50)) (Reps.c2 (k50_mkM _ _ _ (⟨⟨#[99]⟩, ⟨#[48]⟩⟩ : S50)) (Reps.none _ _)))); intro A c w4 hc H4)
    | (go_at_call 15; refine (H4.call_star (T3.out p A c) 1 rfl rfl (fun lab h => (Asn.rd k50 A _ _).mono (row_rd (h.get (p := 2) rfl)) (fun k _ hk => by have h2 : lab k = 2 := hk; omega)) 3 (by decide)).mono ?_; rintro e w5 ⟨r, ⟨A5, c5⟩, rfl, hφ, H5'⟩; obtain ⟨rfl, hc5⟩ := hφ; have H5 : Hp w w5 [(0, Asn.old w (fun _ => False)), (1, isTx p bC), (3, Asn.row k50 50 (.slice A5 br.length c5) br)] := H5'.keep [0, 1, 3]; clear H5' H4)
    | (go_at_call 17; refine (H5.call (T4.out p) 1 rfl rfl (fun _ _ => trivial)).mono ?_; rintro e w6 ⟨r, rfl, H6'⟩; obtain rfl := H6'.fact 1 rfl (fun S h => h.1); have H6 : Hp w w6 [(0, Asn.old w (fun _ => False)), (1, isTx p bC), (3, Asn.row k50 50 (.slice A5 br.length c5) br)] := H6'.imp 1 (A' := isTx p bC) rfl (fun S h => h.2); clear H6' H5; have H7 := H6.box_new 9 #[.string ⟨#[97]⟩, .string ⟨#[49]⟩, .bool false] 46)
    | ((with_reducible refine gate_dst (N := 41) rfl ?_); refine Hp.at_lit k50 H7 4 50 ?hg (N := 41) ?hd (xs := br) (inner := [.string ⟨#[97]⟩, .string ⟨#[49]⟩, .string ⟨#[99]⟩, .string ⟨#[48]⟩]) ?hr ?hp (by decide) ?_; (case hd => rfl); (case hg => rfl); (case hr => first | (go_simp; done) | (go_simp; rfl)); (case hp => exact fun _ => Reps.c2 (k50_mkM _ _ _ (⟨⟨#[97]⟩, ⟨#[49]⟩⟩ : S50)) (Reps.c2 (k50_mkM _ _ _ (⟨⟨#[99]⟩, ⟨#[48]⟩⟩ : S50)) (Reps.none _ _))); intro A8 c8 w8 hc8 H8; clear H7)
    | (go_at_call 32; refine (api_Pair_32.calls 9 A5 c5 br A8 c8 br true _ (H8.row_C 2 rfl).2.2 (H8.row_C 2 rfl).2.1 (H8.row_C 4 rfl).2.2 (H8.row_C 4 rfl).2.1 bg6).mono ?_; rintro e w9 ⟨rfl, ⟨nd, rfl⟩⟩; have H9 := H8.drewN nd; have z1 := H9.cell 3 rfl 1 (v := .string ⟨#[49]⟩) rfl; clear H8))
  go_ret
  exact ⟨rfl, H9.below 0 rfl (fun _ h => h)⟩
end Go.Proofs.Ytookibpiiphmgaa.Tn

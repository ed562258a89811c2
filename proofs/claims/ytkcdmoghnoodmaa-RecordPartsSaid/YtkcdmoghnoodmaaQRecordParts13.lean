/-
Of the row RecordParts: printed walks and plain laws, merged (wip/claim2.py).
-/
import Derived.Test.YtkcdmoghnoodmaaQRecordParts3
import Derived.Test.YtkcdmoghnoodmaaQRecordParts6
import Derived.Test.YtkcdmoghnoodmaaQRecordParts7
import Derived.Test.YtkcdmoghnoodmaaQRecordParts9
import Derived.Test.YtkcdmoghnoodmaaQRecordParts12
set_option linter.unusedVariables false
set_option linter.unusedSimpArgs false
namespace Go.Proofs.Ytkcdmoghnoodmaa.Tk
open Go.RowKit Go.Proofs.Ytkcdmoghnoodmaa.B Go.Proofs.YtkcdmoghnoodmaaW.PrintWords Go.Proofs.YtkcdmoghnoodmaaW.PrintLast Go.Proofs.YtkcdmoghnoodmaaW.PrintMore Go.Proofs.YtkcdmoghnoodmaaW.Mine Go.Proofs.YtkcdmoghnoodmaaW.Hp
open Go.Proofs.Ytkcdmoghnoodmaa.Cod Go.Proofs.Ytkcdmoghnoodmaa.Rd Go.Proofs.Ytkcdmoghnoodmaa.Wr

theorem P_zero {l : List Int} {n s e : Int} (h : P l = (n, s, e)) (he : e ≠ 0) : n = 0 ∧ s = 0 := by
  cases l with
  | nil =>
    simp only [P, Prod.mk.injEq] at h
    exact ⟨h.1.symm, h.2.1.symm⟩
  | cons a t =>
    simp only [P, par, fin] at h
    (repeat' split at h) <;> (simp only [Prod.mk.injEq] at h; obtain ⟨rfl, rfl, rfl⟩ := h; first | exact ⟨rfl, rfl⟩ | exact absurd rfl he)
theorem P_in {l : List Int} (hl : Bytes l) {n s e : Int} (h : P l = (n, s, e)) : 0 ≤ s ∧ s ≤ l.length := by
  by_cases he : e = 0
  · subst he
    obtain ⟨_, h1, h2, _⟩ := P_ok hl h
    omega
  · obtain ⟨_, rfl⟩ := P_zero h he
    omega
theorem F_in {l : List Int} (hl : Bytes l) {n : Bool} {s e : Int} (h : F l = (n, s, e)) : (0 ≤ s ∧ s ≤ l.length) ∧ (e ≠ 0 → n = false ∧ s = 0) := by
  obtain ⟨⟨n0, s0, e0⟩, hP⟩ : ∃ q, P l = q := ⟨_, rfl⟩
  have hi := P_in hl hP
  unfold F at h
  rw [hP] at h
  dsimp only at h hi
  (repeat' split at h) <;> (simp only [Prod.mk.injEq] at h; obtain ⟨rfl, rfl, rfl⟩ := h; exact ⟨by omega, fun he => by first | exact ⟨rfl, rfl⟩ | exact absurd rfl he⟩)
def TB (l : List Int) : List Int × Int × Int :=
  if (P l).2.2 = 0 then (if (P l).1 < 0 then ([], 0, 11) else if (P l).1 > (l.length : Int) - (P l).2.1 then ([], 0, 10) else ((l.take ((P l).2.1 + (P l).1).toNat).drop (P l).2.1.toNat, (P l).2.1 + (P l).1, 0)) else ([], 0, (P l).2.2)
theorem T_TB (l : List Int) : T l = (strOfNums (TB l).1, (TB l).2.1, (TB l).2.2) := by
  unfold T TB
  (repeat' split) <;> rfl
theorem TB_in {l : List Int} (hl : Bytes l) {t : List Int} {s e : Int} (h : TB l = (t, s, e)) : (0 ≤ s ∧ s ≤ l.length) ∧ (e ≠ 0 → t = [] ∧ s = 0) := by
  obtain ⟨⟨n0, s0, e0⟩, hP⟩ : ∃ q, P l = q := ⟨_, rfl⟩
  have hi := P_in hl hP
  unfold TB at h
  rw [hP] at h
  dsimp only at h hi
  (repeat' split at h) <;> (simp only [Prod.mk.injEq] at h; obtain ⟨rfl, rfl, rfl⟩ := h; exact ⟨by omega, fun he => by first | exact ⟨rfl, rfl⟩ | exact absurd rfl he⟩)
theorem parsebytes_ev (l : List Int) (hl : Bytes l) (hn : l.length ≤ 140737488351232) : Ev (fun q => cressetref01_ParseBytes.f q l) (TB l) := by
  unfold cressetref01_ParseBytes.f TB
  refine Ev.bind (parse_ev l hl (by omega)) ?_
  generalize hP : P l = p
  obtain ⟨n, s, e⟩ := p
  simp only
  by_cases c : e = 0
  · subst c
    obtain ⟨⟨n0, n1⟩, hs, hle, _⟩ := P_ok hl hP
    simp only [eq_self, if_true]
    by_cases c1 : n < 0
    · simp only [if_pos c1]
      exact Ev.now _
    · simp only [if_neg c1]
      rw [wr1 (x := (l.length : Int) - s) (by omega) (by omega)]
      by_cases c2 : n > (l.length : Int) - s
      · simp only [if_pos c2]
        exact Ev.now _
      · simp only [if_neg c2]
        refine Ev.congr (f := fun _ => some _) (fun k => ?_) (Ev.now _)
        rw [wr1 (x := s + n) (by omega) (by omega), if_pos (by omega), if_pos (by omega), if_pos (by omega), if_pos (by simp; omega)]
        rfl
  · simp only [if_neg c]
    exact Ev.now _
theorem refflag_ev (l : List Int) (hl : Bytes l) (hn : l.length ≤ 9223372036854775000) : Ev (fun q => cressetref01_ParseFlag.f q l) (F l) := by
  unfold cressetref01_ParseFlag.f F
  refine Ev.bind (parse_ev l hl hn) ?_
  generalize hP : P l = p
  obtain ⟨n, s, e⟩ := p
  simp only
  by_cases c : e = 0
  · subst c
    simp only [eq_self, if_true]
    by_cases c1 : n = 0
    · rw [if_pos (.inl c1)]
      refine Ev.congr (fun k => if_pos c1) ?_
      exact Ev.step (f := fun _ => some _) (fun k => by simp only [cressetref01_ParseFlag.j0]; rfl) (Ev.now _)
    · refine Ev.congr (fun k => if_neg c1) ?_
      by_cases c2 : n = 1
      · rw [if_pos (.inr c2)]
        subst c2
        exact Ev.step (f := fun _ => some _) (fun k => by simp only [cressetref01_ParseFlag.j0]; rfl) (Ev.now _)
      · rw [if_neg (by omega), bne_iff_ne.mpr c2]
        exact Ev.step (f := fun _ => some _) (fun k => by simp only [cressetref01_ParseFlag.j0]; rfl) (Ev.now _)
  · simp only [if_neg c]
    refine Ev.step (f := fun _ => some _) (fun k => ?_) (Ev.now _)
    simp only [cressetref01_ParseFlag.j0]
    rw [if_neg (by decide), if_neg c]
abbrev U8 : Kd Int := Kd.int .u8
def Leads (A : Option Addr) (xs : List Int) (A' : Option Addr) (ys : List Int) : Prop := ∀ W ok, Kd.F U8 W ok A xs.length xs → Kd.F U8 W ok A' ys.length ys
theorem leads_cut {A : Option Addr} {c : Nat} {xs : List Int} (hc : xs.length ≤ c) {s : Int} (h0 : 0 ≤ s) (h1 : s ≤ xs.length) : ∃ A', Leads A xs A' (xs.drop s.toNat) ∧ (xs.drop s.toNat).length ≤ c - s.toNat ∧ ∀ W : World, (Instr.slice 42 (.slice A xs.length c) (some (.int .i64 s)) none none).run Try.prog W = .ok (.slice A' (xs.drop s.toNat).length (c - s.toNat)) W := by
  obtain ⟨i0, hi0, _, hsz, _⟩ := info_parts info5
  have h := cut_from (P := Try.prog) 42 5 .i64 Try.underlying42 hi0 1 hsz A xs.length c s h0 (by omega)
  refine ⟨(if c = s.toNat then A else A.map (·.add (s.toNat * 1))), fun W ok hf => Kd.F_cut hf (by omega) hc, ?_, ?_⟩
  · rw [List.length_drop]; omega
  · intro W
    rw [h W, List.length_drop]
set_option maxHeartbeats 4000000 in
set_option maxRecDepth 100000 in
theorem rflag_tr (rb : Nat) (A : Option Addr) (c : Nat) (xs : List Int) (hbx : Bytes xs) (hlx : xs.length ≤ 140737488351232) (hc : xs.length ≤ c) :
    Tr Try.prog 82 #[.pointer (some ⟨rb, 0, none⟩)] (Asn.rd U8 A xs.length xs) (Asn.box rb #[.slice A xs.length c] 95) (fun r => Asn.ex fun x : Option Addr × Nat => Asn.and (Asn.lift (r = .tuple #[.bool (F xs).1, .int .i64 (F xs).2.2] ∧ (xs.drop (F xs).2.1.toNat).length ≤ x.2 ∧ Leads A xs x.1 (xs.drop (F xs).2.1.toNat))) (Asn.box rb #[.slice x.1 (xs.drop (F xs).2.1.toNat).length x.2] 95)) := by
  refine Tr.intro fun w U H => ?_
  obtain ⟨k, hk⟩ := (refflag_ev xs hbx (by omega)).rounds
  obtain ⟨⟨n, s, e⟩, hP⟩ : ∃ q, F xs = q := ⟨_, rfl⟩
  rw [hP] at hk ⊢
  obtain ⟨hs0, hs1⟩ := (F_in hbx hP).1
  obtain ⟨A', hld, hcl, hcut⟩ := leads_cut (A := A) hc hs0 hs1
  dsimp only
  generalize xs.drop s.toNat = ys at *
  generalize c - s.toNat = c' at *
  have z0 := H.cell 2 rfl 0 (v := .slice A xs.length c) rfl
  have u0 := H.unfrozen 2 rfl 0
  have HK := Aside0.mk hk
  clear hk hs0 hs1 hP
  go_enter Try.func82, Try.ntmps82
  go_wp2_with (go_at_call 88; refine (cressetref01_ParseFlag.calls k A c xs n s e _ (H.reads 1 rfl) hc HK.out).mono ?_; rintro e' w1 ⟨rfl, ⟨nd, rfl⟩⟩)
  go_ret2
  have H1 := (H.drewN nd).box_set 2 rfl rfl 0 (.slice A' ys.length c')
  exact ⟨_, rfl, (H1.imp 2 (A' := Asn.ex fun x : Option Addr × Nat => Asn.and (Asn.lift (Value.tuple #[.bool n, .int .i64 e] = Value.tuple #[.bool n, .int .i64 e] ∧ ys.length ≤ x.2 ∧ Leads A xs x.1 ys)) (Asn.box rb #[.slice x.1 ys.length x.2] 95)) rfl (fun S h => ⟨(A', c'), ⟨rfl, hcl, hld⟩, h⟩)).keep [0, 2]⟩
set_option maxHeartbeats 4000000 in
set_option maxRecDepth 100000 in
theorem rbytes_tr (rb : Nat) (A : Option Addr) (c : Nat) (xs : List Int) (hbx : Bytes xs) (hlx : xs.length ≤ 140737488351232) (hc : xs.length ≤ c) :
    Tr Try.prog 83 #[.pointer (some ⟨rb, 0, none⟩)] (Asn.rd U8 A xs.length xs) (Asn.box rb #[.slice A xs.length c] 95) (fun r => Asn.ex fun x : Option Addr × Nat × Option Addr × Nat => Asn.and (Asn.lift (r = .tuple #[.slice x.2.2.1 (TB xs).1.length x.2.2.2, .int .i64 (TB xs).2.2] ∧ (xs.drop (TB xs).2.1.toNat).length ≤ x.2.1 ∧ Leads A xs x.1 (xs.drop (TB xs).2.1.toNat))) (Asn.star (Asn.box rb #[.slice x.1 (xs.drop (TB xs).2.1.toNat).length x.2.1] 95) (Asn.row U8 5 (.slice x.2.2.1 (TB xs).1.length x.2.2.2) (TB xs).1))) := by
  refine Tr.intro fun w U H => ?_
  obtain ⟨k, hk⟩ := (parsebytes_ev xs hbx (by omega)).rounds
  obtain ⟨⟨n, s, e⟩, hP⟩ : ∃ q, TB xs = q := ⟨_, rfl⟩
  rw [hP] at hk ⊢
  obtain ⟨hs0, hs1⟩ := (TB_in hbx hP).1
  obtain ⟨A', hld, hcl, hcut⟩ := leads_cut (A := A) hc hs0 hs1
  dsimp only
  generalize xs.drop s.toNat = ys at *
  generalize c - s.toNat = c' at *
  have z0 := H.cell 2 rfl 0 (v := .slice A xs.length c) rfl
  have HK := Aside0.mk hk
  clear hk hs0 hs1 hP
  go_enter Try.func83, Try.ntmps83
  go_wp2_with (go_at_call 89; refine (cressetref01_ParseBytes.calls k A c xs n s e _ (H.reads 1 rfl) hc HK.out).mono ?_; rintro e' w1 ⟨v1, rfl, hR, hb⟩; have H1 := H.made 3 hb hR; obtain ⟨Ab, cb, rfl⟩ := Kd.R_slice hR; clear hR hb; have y0 := H1.cell 2 rfl 0 (v := .slice A xs.length c) rfl; have u0 := H1.unfrozen 2 rfl 0)
  go_ret2
  have H2 := H1.box_set 2 rfl rfl 0 (.slice A' ys.length c')
  have H3 := H2.join 2 3 rfl rfl (by decide) rfl rfl
  exact ⟨_, rfl, (H3.imp 2 (A' := Asn.ex fun x : Option Addr × Nat × Option Addr × Nat => Asn.and (Asn.lift (Value.tuple #[.slice Ab n.length cb, .int .i64 e] = Value.tuple #[.slice x.2.2.1 n.length x.2.2.2, .int .i64 e] ∧ ys.length ≤ x.2.1 ∧ Leads A xs x.1 ys)) (Asn.star (Asn.box rb #[.slice x.1 ys.length x.2.1] 95) (Asn.row U8 5 (.slice x.2.2.1 n.length x.2.2.2) n))) rfl (fun S h => ⟨(A', c', Ab, cb), ⟨rfl, hcl, hld⟩, h⟩)).keep [0, 2]⟩
def isTk (p : Nat) (A0 : Option Addr) (b : List Int) (a e : Int) : Asn := Asn.ex fun x : Nat × Option Addr × Nat => Asn.and (Asn.lift ((dr b a).length ≤ x.2.2 ∧ Leads A0 b x.2.1 (dr b a))) (Asn.star (Asn.box p #[.pointer (some ⟨x.1, 0, none⟩), .int .i64 e] 97) (Asn.box x.1 #[.slice x.2.1 (dr b a).length x.2.2] 95))
section
variable {w0 w : World} {U : Nat → Prop} {X : Asn} {p rb : Nat} {A0 A : Option Addr} {c : Nat} {b : List Int} {a e : Int} {r : Value}
theorem tk_open (H : Hp w0 w [(0, Asn.old w0 U), (0, Asn.rd U8 A0 b.length b), (1, isTk p A0 b a e)]) : ∃ rb A c, (dr b a).length ≤ c ∧ Leads A0 b A (dr b a) ∧ Hp w0 w [(0, Asn.old w0 U), (0, Asn.rd U8 A0 b.length b), (1, Asn.box p #[.pointer (some ⟨rb, 0, none⟩), .int .i64 e] 97), (2, Asn.box rb #[.slice A (dr b a).length c] 95), (0, Asn.rd U8 A (dr b a).length (dr b a))] := by
  obtain ⟨⟨rb, A, c⟩, H1⟩ := H.open_ 2 rfl
  obtain ⟨hc, hl⟩ := H1.fact 2 rfl (fun S h => h.1)
  have H2 := (H1.imp 2 (A' := Asn.star (Asn.box p #[.pointer (some ⟨rb, 0, none⟩), .int .i64 e] 97) (Asn.box rb #[.slice A (dr b a).length c] 95)) rfl (fun S h => h.2)).split 2 2 rfl rfl (by decide)
  exact ⟨rb, A, c, hc, hl, (H2.keep [0, 1, 2, 3, 1]).imp 4 rfl (fun S h => hl _ _ h)⟩
theorem tk_shut (H : Hp w0 w [(0, Asn.old w0 U), (0, X), (1, Asn.box p #[.pointer (some ⟨rb, 0, none⟩), .int .i64 e] 97), (2, Asn.box rb #[.slice A (dr b a).length c] 95)]) (hc : (dr b a).length ≤ c) (hl : Leads A0 b A (dr b a)) : Hp w0 w [(0, Asn.old w0 U), (1, Asn.and (Asn.lift (r = r)) (isTk p A0 b a e))] :=
  ((H.join 2 3 rfl rfl (by decide) rfl rfl).imp 2 (A' := Asn.and (Asn.lift (r = r)) (isTk p A0 b a e)) rfl (fun S h => ⟨rfl, (rb, A, c), ⟨hc, hl⟩, h⟩)).keep [0, 2]
end
theorem Leads.trans {A0 A A' : Option Addr} {b xs ys : List Int} (h : Leads A0 b A xs) (k : Leads A xs A' ys) : Leads A0 b A' ys := fun W ok hf => k W ok (h W ok hf)
theorem dr_le {b : List Int} (hb : Bytes b) (hl : b.length ≤ 140737488351232) {a : Int} (ha : In b a) : (dr b a).length ≤ 140737488351232 := by have := dr_len ha; have := ha.1; omega
theorem RF_eq {b : List Int} (hb : Bytes b) (hl : b.length ≤ 140737488351232) {a : Int} (ha : In b a) : RF b a 0 = ((F (dr b a)).1, a + (F (dr b a)).2.1, (F (dr b a)).2.2) := by
  unfold RF
  rw [if_pos rfl]
  obtain ⟨⟨n, s, e⟩, hP⟩ : ∃ q, F (dr b a) = q := ⟨_, rfl⟩
  rw [hP]
  by_cases he : e = 0
  · subst he; rw [if_pos rfl]
  · obtain ⟨rfl, rfl⟩ := (F_in (dr_bytes hb a) hP).2 he
    rw [if_neg he]; simp
theorem RT_eq {b : List Int} (hb : Bytes b) (hl : b.length ≤ 140737488351232) {a : Int} (ha : In b a) : RT b a 0 = (strOfNums (TB (dr b a)).1, a + (TB (dr b a)).2.1, (TB (dr b a)).2.2) := by
  unfold RT
  rw [if_pos rfl, T_TB]
  obtain ⟨⟨n, s, e⟩, hP⟩ : ∃ q, TB (dr b a) = q := ⟨_, rfl⟩
  rw [hP]
  by_cases he : e = 0
  · subst he; rw [if_pos rfl]
  · obtain ⟨rfl, rfl⟩ := (TB_in (dr_bytes hb a) hP).2 he
    rw [if_neg he]; simp [strOfNums]
section
variable {b : List Int} (hb : Bytes b) (hl : b.length ≤ 140737488351232) {p : Nat} {A0 : Option Addr} {a : Int} (ha : In b a)
include hb hl ha
set_option maxHeartbeats 4000000 in
set_option maxRecDepth 100000 in
theorem flag_tr (e : Int) : Tr Try.prog 69 #[.pointer (some ⟨p, 0, none⟩)] (Asn.rd U8 A0 b.length b) (isTk p A0 b a e) (fun r => Asn.and (Asn.lift (r = .bool (RF b a e).1)) (isTk p A0 b (RF b a e).2.1 (RF b a e).2.2)) := by
  refine Tr.intro fun w U H0 => ?_
  obtain ⟨rb, A, c, hc, hld, H⟩ := tk_open H0
  clear H0
  have z0 := H.cell 2 rfl 0 rfl
  have z1 := H.cell 2 rfl 1 (v := .int .i64 e) rfl
  by_cases he : e = 0
  · subst he
    rw [RF_eq hb hl ha]
    have hdl := dr_le hb hl ha
    obtain ⟨⟨n, s, e1⟩, hP⟩ : ∃ q, F (dr b a) = q := ⟨_, rfl⟩
    have hs := (F_in (dr_bytes hb a) hP).1
    have hd : (dr b a).drop s.toNat = dr b (a + s) := (dr_dr ha.1 hs.1).symm
    have HT := rflag_tr rb A c (dr b a) (dr_bytes hb a) hdl hc
    rw [hP] at HT ⊢
    dsimp only at HT ⊢
    rw [hd] at HT
    have HTA := Aside0.mk HT
    clear HT hP hd hs
    go_enter Try.func69, Try.ntmps69
    go_wp2_with (go_at_call 82; refine (H.call HTA.out 3 rfl rfl (fun lab h => (Asn.rd U8 A _ _).mono (h.get (p := 4) rfl) (fun k _ hk => by have h2 : lab k = 0 := hk; omega))).mono ?_; rintro e' w1 ⟨r, rfl, H1⟩; obtain ⟨⟨A', c'⟩, H2⟩ := H1.open_ 3 rfl; obtain ⟨rfl, hc', hl'⟩ := H2.fact 3 rfl (fun S h => h.1); have H3 := H2.imp 3 (A' := Asn.box rb #[.slice A' (dr b (a + s)).length c'] 95) rfl (fun S h => h.2); have u1 := H3.unfrozen 2 rfl 1; have y1 := H3.cell 2 rfl 1 (v := .int .i64 0) rfl)
    go_ret
    exact ⟨_, rfl, tk_shut ((H3.box_set 2 rfl rfl 1 (.int .i64 e1)).keep [0, 1, 2, 3]) hc' (hld.trans hl')⟩
  · have hR : RF b a e = (false, a, e) := by unfold RF; rw [if_neg he]
    rw [hR]
    have q1 : (e == 0) = false := beq_eq_false_iff_ne.mpr he
    have q2 : (e != 0) = true := bne_iff_ne.mpr he
    go_enter Try.func69, Try.ntmps69
    go_wp2
    go_ret
    exact ⟨_, rfl, tk_shut (H.keep [0, 1, 2, 3]) hc hld⟩
set_option maxHeartbeats 4000000 in
set_option maxRecDepth 100000 in
theorem text_tr (e : Int) : Tr Try.prog 70 #[.pointer (some ⟨p, 0, none⟩)] (Asn.rd U8 A0 b.length b) (isTk p A0 b a e) (fun r => Asn.and (Asn.lift (r = .string (RT b a e).1)) (isTk p A0 b (RT b a e).2.1 (RT b a e).2.2)) := by
  refine Tr.intro fun w U H0 => ?_
  obtain ⟨rb, A, c, hc, hld, H⟩ := tk_open H0
  clear H0
  have z0 := H.cell 2 rfl 0 rfl
  have z1 := H.cell 2 rfl 1 (v := .int .i64 e) rfl
  by_cases he : e = 0
  · subst he
    rw [RT_eq hb hl ha]
    have hdl := dr_le hb hl ha
    obtain ⟨⟨n, s, e1⟩, hP⟩ : ∃ q, TB (dr b a) = q := ⟨_, rfl⟩
    have hs := (TB_in (dr_bytes hb a) hP).1
    have hd : (dr b a).drop s.toNat = dr b (a + s) := (dr_dr ha.1 hs.1).symm
    have HT := rbytes_tr rb A c (dr b a) (dr_bytes hb a) hdl hc
    rw [hP] at HT ⊢
    dsimp only at HT ⊢
    rw [hd] at HT
    have HTA := Aside0.mk HT
    clear HT hP hd hs
    go_enter Try.func70, Try.ntmps70
    go_wp2_with (go_at_call 83; refine (H.call HTA.out 3 rfl rfl (fun lab h => (Asn.rd U8 A _ _).mono (h.get (p := 4) rfl) (fun k _ hk => by have h2 : lab k = 0 := hk; omega))).mono ?_; rintro e' w1 ⟨r, rfl, H1⟩; obtain ⟨⟨A', c', Ab, cb⟩, H2⟩ := H1.open_ 3 rfl; obtain ⟨rfl, hc', hl'⟩ := H2.fact 3 rfl (fun S h => h.1); have H3 := (H2.imp 3 (A' := Asn.star (Asn.box rb #[.slice A' (dr b (a + s)).length c'] 95) (Asn.row U8 5 (.slice Ab n.length cb) n)) rfl (fun S h => h.2)).split 3 5 rfl rfl (by decide); have u1 := H3.unfrozen 2 rfl 1; have y1 := H3.cell 2 rfl 1 (v := .int .i64 0) rfl; have H4 := H3.box_set 2 rfl rfl 1 (.int .i64 e1); have hcv := Kd.C_string (P := Try.prog) (A := Ab) (c := cb) Try.underlying42 Try.underlying5 Try.underlying9 (H4.row_C 5 rfl).2.2)
    go_ret
    exact ⟨_, rfl, tk_shut (H4.keep [0, 1, 2, 3]) hc' (hld.trans hl')⟩
  · have hR : RT b a e = (⟨#[]⟩, a, e) := by unfold RT; rw [if_neg he]
    rw [hR]
    have q1 : (e == 0) = false := beq_eq_false_iff_ne.mpr he
    have q2 : (e != 0) = true := bne_iff_ne.mpr he
    go_enter Try.func70, Try.ntmps70
    go_wp2
    go_ret
    exact ⟨_, rfl, tk_shut (H.keep [0, 1, 2, 3]) hc hld⟩
end
end Go.Proofs.Ytkcdmoghnoodmaa.Tk

set_option linter.unusedVariables false
set_option linter.unusedSimpArgs false
namespace Go.Proofs.Ytkcdmoghnoodmaa.Tk
open Go.RowKit Go.Proofs.Ytkcdmoghnoodmaa.B Go.Proofs.YtkcdmoghnoodmaaW.PrintWords Go.Proofs.YtkcdmoghnoodmaaW.PrintLast Go.Proofs.YtkcdmoghnoodmaaW.PrintMore Go.Proofs.YtkcdmoghnoodmaaW.Mine Go.Proofs.YtkcdmoghnoodmaaW.Hp
open Go.Proofs.Ytkcdmoghnoodmaa.Lib Go.Proofs.Ytkcdmoghnoodmaa.Cod Go.Proofs.Ytkcdmoghnoodmaa.Rd Go.Proofs.Ytkcdmoghnoodmaa.Wr

section
variable {b : List Int} (hb : Bytes b) (hl : b.length ≤ 140737488351232) {p : Nat} {A0 : Option Addr} {a : Int}
include hb hl
set_option maxHeartbeats 8000000 in
set_option maxRecDepth 100000 in
theorem write_tr (ha : In b a) (e : Int) : Tr Try.prog 61 #[.pointer (some ⟨p, 0, none⟩)] (Asn.rd U8 A0 b.length b) (isTk p A0 b a e) (fun r => Asn.and (Asn.lift (r = .agg #[.string (RW b a e).1.f0, .string (RW b a e).1.f1, .bool (RW b a e).1.f2])) (isTk p A0 b (RW b a e).2.1 (RW b a e).2.2)) := by
  refine Tr.intro fun w U H => ?_
  have i1 := RT_in (e := e) hb ha
  have i2 := RF_in (e := (RT b a e).2.2) hb i1
  have T1 := text_tr hb hl (p := p) (A0 := A0) ha e
  have T2 := flag_tr hb hl (p := p) (A0 := A0) i1 (RT b a e).2.2
  have T3 := text_tr hb hl (p := p) (A0 := A0) i2 (RF b (RT b a e).2.1 (RT b a e).2.2).2.2
  unfold RW
  dsimp only
  obtain ⟨⟨s1, a1, e1⟩, h1⟩ : ∃ q, RT b a e = q := ⟨_, rfl⟩
  rw [h1] at T1 T2 T3 ⊢
  dsimp only at T1 T2 T3 ⊢
  obtain ⟨⟨f1, a2, e2⟩, h2⟩ : ∃ q, RF b a1 e1 = q := ⟨_, rfl⟩
  rw [h2] at T2 T3 ⊢
  dsimp only at T2 T3 ⊢
  obtain ⟨⟨s2, a3, e3⟩, h3⟩ : ∃ q, RT b a2 e2 = q := ⟨_, rfl⟩
  rw [h3] at T3 ⊢
  dsimp only at T3 ⊢
  have C := checkWriteR_eq (⟨s1, s2, f1⟩ : S33)
  dsimp only at C
  generalize wrE (⟨s1, s2, f1⟩ : S33) = ew at C ⊢
  have TA := Aside0.mk T1
  have TB' := Aside0.mk T2
  have TC' := Aside0.mk T3
  have CA := Aside0.mk C
  clear T1 T2 T3 h1 h2 h3 i1 i2 C
  by_cases he : e3 = 0
  · subst he
    rw [if_pos rfl]
    go_enter Try.func61, Try.ntmps61
    go_wp2_with (first
      | ((with_reducible refine gate_dst (N := 2) rfl ?_); refine Hp.at_box H 3 ?hg (N := 2) ?hd (cs := #[.string ⟨#[]⟩, .string ⟨#[]⟩, .bool false]) (t := 33) ?hr ?_; (case hd => rfl); (case hg => rfl); (case hr => first | (go_simp; done) | (go_simp; rfl)); intro g2 w1 H1; clear H)
      | (go_at_call 70; refine (H1.call TA.out 2 rfl rfl (fun lab h => (Asn.rd U8 A0 _ _).mono (h.get (p := 1) rfl) (fun k _ hk => by have h2 : lab k = 0 := hk; omega))).mono ?_; rintro e' w2 ⟨r, rfl, H'⟩; obtain rfl := H'.fact 2 rfl (fun S h => h.1); have H2 := H'.imp 2 (A' := isTk p A0 b a1 e1) rfl (fun S h => h.2); clear H'; clear H1)
      | ((with_reducible refine gate_dst (N := 3) rfl ?_); refine Hp.at_box H2 4 ?hg (N := 3) ?hd (cs := #[.string ⟨#[]⟩, .string ⟨#[]⟩, .bool false]) (t := 33) ?hr ?_; (case hd => rfl); (case hg => rfl); (case hr => first | (go_simp; done) | (go_simp; rfl)); intro g3 w3 H3; clear H2; have x0 := H3.cell 4 rfl 0 (v := .string ⟨#[]⟩) rfl; have x1 := H3.cell 4 rfl 1 (v := .string ⟨#[]⟩) rfl; have x2 := H3.cell 4 rfl 2 (v := .bool false) rfl; have u0 := H3.unfrozen 4 rfl 0; have u1 := H3.unfrozen 4 rfl 1; have u2 := H3.unfrozen 4 rfl 2)
      | ((with_reducible refine gate_store (t := 33) (p := 3) rfl ?_); refine Hp.at_sets H3 4 rfl rfl ?hg (T := 33) (z := 3) (x := ?vo) ?ho ?hn 0 [.string s1, .string ⟨#[]⟩, .bool false] ?hr (cs' := #[.string s1, .string ⟨#[]⟩, .bool false]) ?hc ?_; (case ho => rfl); (case hg => rfl); (case hn => rfl); (case hr => first | (go_simp; done) | (go_simp; rfl)); (case hc => rfl); clear x0 x1 x2 u0 u1 u2; intro w4 H4; clear H3)
      | (go_at_call 69; refine (H4.call TB'.out 2 rfl rfl (fun lab h => (Asn.rd U8 A0 _ _).mono (h.get (p := 1) rfl) (fun k _ hk => by have h2 : lab k = 0 := hk; omega))).mono ?_; rintro e' w5 ⟨r, rfl, H'⟩; obtain rfl := H'.fact 2 rfl (fun S h => h.1); have H5 := H'.imp 2 (A' := isTk p A0 b a2 e2) rfl (fun S h => h.2); clear H'; clear H4; have x2 := H5.cell 4 rfl 2 (v := .bool false) rfl; have u2 := H5.unfrozen 4 rfl 2)
      | (go_at_call 70; refine ((H5.box_set 4 rfl rfl 2 (.bool f1)).call TC'.out 2 rfl rfl (fun lab h => (Asn.rd U8 A0 _ _).mono (h.get (p := 1) rfl) (fun k _ hk => by have h2 : lab k = 0 := hk; omega))).mono ?_; rintro e' w6 ⟨r, rfl, H'⟩; clear x2 u2 H5; obtain rfl := H'.fact 2 rfl (fun S h => h.1); have H6 := H'.imp 2 (A' := isTk p A0 b a3 0) rfl (fun S h => h.2); clear H'; have x1 := H6.cell 4 rfl 1 (v := .string ⟨#[]⟩) rfl; have u1 := H6.unfrozen 4 rfl 1; have H7 := H6.box_set 4 rfl rfl 1 (.string s2); obtain ⟨⟨rb, A, c⟩, H8⟩ := H7.open_ 2 rfl; obtain ⟨hc, hld⟩ := H8.fact 2 rfl (fun S h => h.1); have H9' := (H8.imp 2 (A' := Asn.star (Asn.box p #[.pointer (some ⟨rb, 0, none⟩), .int .i64 0] 97) (Asn.box rb #[.slice A (dr b a3).length c] 95)) rfl (fun S h => h.2)).split 2 2 rfl rfl (by decide); have H9 : Hp w _ [(0, Asn.old w U), (0, Asn.rd U8 A0 b.length b), (1, Asn.box p #[.pointer (some ⟨rb, 0, none⟩), .int .i64 0] 97), (3, Asn.box g2 #[.string ⟨#[]⟩, .string ⟨#[]⟩, .bool false] 33), (4, Asn.box g3 #[.string s1, .string s2, .bool f1] 33), (2, Asn.box rb #[.slice A (dr b a3).length c] 95)] := H9'; clear H6 H7 H8 H9'; have z1 := H9.cell 2 rfl 1 (v := .int .i64 0) rfl; have y0 := H9.cell 4 rfl 0 (v := .string s1) rfl; have y1 := H9.cell 4 rfl 1 (v := .string s2) rfl; have y2 := H9.cell 4 rfl 2 (v := .bool f1) rfl)
      | (go_at_call 12; refine (cressetref03_CheckWrite.calls s1 s2 f1 ew _ CA.out).mono ?_; rintro e' w8 ⟨rfl, hb8⟩; have H10 := H9.same hb8; clear H9 hb8 z1 y0 y1 y2 x1 u1; have z1 := H10.cell 2 rfl 1 (v := .int .i64 0) rfl; have u1 := H10.unfrozen 2 rfl 1; have H11 := H10.box_set 2 rfl rfl 1 (.int .i64 ew); have y0 := H11.cell 4 rfl 0 (v := .string s1) rfl; have y1 := H11.cell 4 rfl 1 (v := .string s2) rfl; have y2 := H11.cell 4 rfl 2 (v := .bool f1) rfl; have k0 := H11.cell 3 rfl 0 (v := .string ⟨#[]⟩) rfl; have k1 := H11.cell 3 rfl 1 (v := .string ⟨#[]⟩) rfl; have k2 := H11.cell 3 rfl 2 (v := .bool false) rfl; have v0 := H11.unfrozen 3 rfl 0; have v1 := H11.unfrozen 3 rfl 1; have v2 := H11.unfrozen 3 rfl 2))
    have H12 := ((H11.box_set 3 rfl rfl 0 (.string s1)).box_set 3 rfl rfl 1 (.string s2)).box_set 3 rfl rfl 2 (.bool f1)
    have c0 := H12.cell 3 rfl 0 (v := .string s1) rfl
    have c1 := H12.cell 3 rfl 1 (v := .string s2) rfl
    have c2 := H12.cell 3 rfl 2 (v := .bool f1) rfl
    refine bodyPost_ret (v := .agg #[.string s1, .string s2, .bool f1]) (by simp [results, Try.f61, go_sem, c0, c1, c2]) rfl ⟨_, rfl, ?_⟩
    exact tk_shut (H12.keep [0, 1, 2, 5]) hc hld
  · rw [if_neg he]
    have q1 : (e3 == 0) = false := beq_eq_false_iff_ne.mpr he
    go_enter Try.func61, Try.ntmps61
    go_wp2_with (first
      | ((with_reducible refine gate_dst (N := 2) rfl ?_); refine Hp.at_box H 3 ?hg (N := 2) ?hd (cs := #[.string ⟨#[]⟩, .string ⟨#[]⟩, .bool false]) (t := 33) ?hr ?_; (case hd => rfl); (case hg => rfl); (case hr => first | (go_simp; done) | (go_simp; rfl)); intro g2 w1 H1; clear H)
      | (go_at_call 70; refine (H1.call TA.out 2 rfl rfl (fun lab h => (Asn.rd U8 A0 _ _).mono (h.get (p := 1) rfl) (fun k _ hk => by have h2 : lab k = 0 := hk; omega))).mono ?_; rintro e' w2 ⟨r, rfl, H'⟩; obtain rfl := H'.fact 2 rfl (fun S h => h.1); have H2 := H'.imp 2 (A' := isTk p A0 b a1 e1) rfl (fun S h => h.2); clear H'; clear H1)
      | ((with_reducible refine gate_dst (N := 3) rfl ?_); refine Hp.at_box H2 4 ?hg (N := 3) ?hd (cs := #[.string ⟨#[]⟩, .string ⟨#[]⟩, .bool false]) (t := 33) ?hr ?_; (case hd => rfl); (case hg => rfl); (case hr => first | (go_simp; done) | (go_simp; rfl)); intro g3 w3 H3; clear H2; have x0 := H3.cell 4 rfl 0 (v := .string ⟨#[]⟩) rfl; have x1 := H3.cell 4 rfl 1 (v := .string ⟨#[]⟩) rfl; have x2 := H3.cell 4 rfl 2 (v := .bool false) rfl; have u0 := H3.unfrozen 4 rfl 0; have u1 := H3.unfrozen 4 rfl 1; have u2 := H3.unfrozen 4 rfl 2)
      | ((with_reducible refine gate_store (t := 33) (p := 3) rfl ?_); refine Hp.at_sets H3 4 rfl rfl ?hg (T := 33) (z := 3) (x := ?vo) ?ho ?hn 0 [.string s1, .string ⟨#[]⟩, .bool false] ?hr (cs' := #[.string s1, .string ⟨#[]⟩, .bool false]) ?hc ?_; (case ho => rfl); (case hg => rfl); (case hn => rfl); (case hr => first | (go_simp; done) | (go_simp; rfl)); (case hc => rfl); clear x0 x1 x2 u0 u1 u2; intro w4 H4; clear H3)
      | (go_at_call 69; refine (H4.call TB'.out 2 rfl rfl (fun lab h => (Asn.rd U8 A0 _ _).mono (h.get (p := 1) rfl) (fun k _ hk => by have h2 : lab k = 0 := hk; omega))).mono ?_; rintro e' w5 ⟨r, rfl, H'⟩; obtain rfl := H'.fact 2 rfl (fun S h => h.1); have H5 := H'.imp 2 (A' := isTk p A0 b a2 e2) rfl (fun S h => h.2); clear H'; clear H4; have x2 := H5.cell 4 rfl 2 (v := .bool false) rfl; have u2 := H5.unfrozen 4 rfl 2)
      | (go_at_call 70; refine ((H5.box_set 4 rfl rfl 2 (.bool f1)).call TC'.out 2 rfl rfl (fun lab h => (Asn.rd U8 A0 _ _).mono (h.get (p := 1) rfl) (fun k _ hk => by have h2 : lab k = 0 := hk; omega))).mono ?_; rintro e' w6 ⟨r, rfl, H'⟩; clear x2 u2 H5; obtain rfl := H'.fact 2 rfl (fun S h => h.1); have H6 := H'.imp 2 (A' := isTk p A0 b a3 e3) rfl (fun S h => h.2); clear H'; have x1 := H6.cell 4 rfl 1 (v := .string ⟨#[]⟩) rfl; have u1 := H6.unfrozen 4 rfl 1; have H7 := H6.box_set 4 rfl rfl 1 (.string s2); obtain ⟨⟨rb, A, c⟩, H8⟩ := H7.open_ 2 rfl; obtain ⟨hc, hld⟩ := H8.fact 2 rfl (fun S h => h.1); have H9' := (H8.imp 2 (A' := Asn.star (Asn.box p #[.pointer (some ⟨rb, 0, none⟩), .int .i64 e3] 97) (Asn.box rb #[.slice A (dr b a3).length c] 95)) rfl (fun S h => h.2)).split 2 2 rfl rfl (by decide); have H9 : Hp w _ [(0, Asn.old w U), (0, Asn.rd U8 A0 b.length b), (1, Asn.box p #[.pointer (some ⟨rb, 0, none⟩), .int .i64 e3] 97), (3, Asn.box g2 #[.string ⟨#[]⟩, .string ⟨#[]⟩, .bool false] 33), (4, Asn.box g3 #[.string s1, .string s2, .bool f1] 33), (2, Asn.box rb #[.slice A (dr b a3).length c] 95)] := H9'; clear H6 H7 H8 H9'; have z1 := H9.cell 2 rfl 1 (v := .int .i64 e3) rfl; have y0 := H9.cell 4 rfl 0 (v := .string s1) rfl; have y1 := H9.cell 4 rfl 1 (v := .string s2) rfl; have y2 := H9.cell 4 rfl 2 (v := .bool f1) rfl; have k0 := H9.cell 3 rfl 0 (v := .string ⟨#[]⟩) rfl; have k1 := H9.cell 3 rfl 1 (v := .string ⟨#[]⟩) rfl; have k2 := H9.cell 3 rfl 2 (v := .bool false) rfl; have v0 := H9.unfrozen 3 rfl 0; have v1 := H9.unfrozen 3 rfl 1; have v2 := H9.unfrozen 3 rfl 2))
    have H12 := ((H9.box_set 3 rfl rfl 0 (.string s1)).box_set 3 rfl rfl 1 (.string s2)).box_set 3 rfl rfl 2 (.bool f1)
    have c0 := H12.cell 3 rfl 0 (v := .string s1) rfl
    have c1 := H12.cell 3 rfl 1 (v := .string s2) rfl
    have c2 := H12.cell 3 rfl 2 (v := .bool f1) rfl
    refine bodyPost_ret (v := .agg #[.string s1, .string s2, .bool f1]) (by simp [results, Try.f61, go_sem, c0, c1, c2]) rfl ⟨_, rfl, ?_⟩
    exact tk_shut (H12.keep [0, 1, 2, 5]) hc hld
end
end Go.Proofs.Ytkcdmoghnoodmaa.Tk

set_option linter.unusedVariables false
set_option linter.unusedSimpArgs false
namespace Go.Proofs.Ytkcdmoghnoodmaa.Tk
open Go.RowKit Go.Proofs.Ytkcdmoghnoodmaa.B Go.Proofs.YtkcdmoghnoodmaaW.PrintWords Go.Proofs.YtkcdmoghnoodmaaW.PrintLast Go.Proofs.YtkcdmoghnoodmaaW.PrintMore Go.Proofs.YtkcdmoghnoodmaaW.Mine Go.Proofs.YtkcdmoghnoodmaaW.Hp
open Go.Proofs.Ytkcdmoghnoodmaa.Lib Go.Proofs.Ytkcdmoghnoodmaa.Cod Go.Proofs.Ytkcdmoghnoodmaa.Rd Go.Proofs.Ytkcdmoghnoodmaa.Wr

theorem In0 (b : List Int) : In b 0 := ⟨Int.le_refl _, by omega⟩
theorem leads_refl (A0 : Option Addr) (b : List Int) : Leads A0 b A0 (dr b 0) := fun _ _ h => h
section
variable {b : List Int} (hb : Bytes b) (hl : b.length ≤ 140737488351232)
include hb hl
end
end Go.Proofs.Ytkcdmoghnoodmaa.Tk
